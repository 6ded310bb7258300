-- Written by hyb.sh (a program of this session, over the kit's printer), for the seat Ytlckejjmkjgknaa.
import Derived.Test.YtlckejjmkjgknaaH0
import Derived.Test.YtlckejjmkjgknaaH1
import Derived.Test.YtlckejjmkjgknaaH2
import Derived.Test.YtlckejjmkjgknaaXShuffle
namespace Go.Proofs.Ytlckejjmkjgknaa.Hy
open Go.RowKit Go.Proofs.YtlckejjmkjgknaaW.PrintWords Go.Proofs.YtlckejjmkjgknaaW.PrintLast Go.Proofs.YtlckejjmkjgknaaW.PrintMore
attribute [local go_sem] max2_int min2_int max_two min_two max_three min_three max_four min_four   -- for this text's walks alone
set_option linter.unusedVariables false
set_option linter.unusedSimpArgs false

/-! ### petrinetlaw52_RandomRanges: function 8 -/
mutual
def petrinetlaw52_RandomRanges.j0 : Nat → Int → Int → Bool → Option (Bool)
  | 0, _, _, _ => none
  | k + 1, x0, x1, x73 => if x73 = true then (some false) else ((random_Shuffle.f x0 x1).bind fun bt151 => (if 0 ≤ (bt151.1.length : Int) then (if ((bt151.1.length : Int) : Int).toNat ≤ 281474976710656 then (petrinetlaw52_RandomRanges.l0 k x1 bt151.1 (List.replicate ((bt151.1.length : Int) : Int).toNat false) 0) else (none)) else (none)))
def petrinetlaw52_RandomRanges.l0 : Nat → Int → List Int → List Bool → Int → Option (Bool)
  | 0, _, _, _, _ => none
  | k + 1, x1, x13, x15, x16 => if x16 < (x13.length : Int) then (if 0 ≤ x16 then (if (rd x13 x16) < 0 then (some false) else (if (rd x13 x16) ≥ (x13.length : Int) then (some false) else (if 0 ≤ (rd x13 x16) then (if (rd x13 x16) < (x15.length : Int) then (if rdOf false x15 (rd x13 x16) = true then (some false) else (petrinetlaw52_RandomRanges.l0 k x1 x13 (x15.set ((rd x13 x16) : Int).toNat true) (wrap64 (x16 + 1)))) else (none)) else (none)))) else (none)) else (if x1 < 1 then ((petrinetlaw52_alive.f k).bind fun t164 => (some t164)) else (if x1 > 64 then ((petrinetlaw52_alive.f k).bind fun t165 => (some t165)) else (if (x13.length : Int) = x1 then ((petrinetlaw52_alive.f k).bind fun t166 => (some t166)) else (some false))))
end
def petrinetlaw52_RandomRanges.f (k : Nat) (a0 : Int) (a1 : Int) (l2 : List Int) : Option (Bool) := if (l2.length : Int) > 80 then ((petrinetlaw52_alive.f k).bind fun t141 => (some t141)) else ((random_Next.f a0).bind fun bt142 => ((random_Below.f a0 a1).bind fun bt144 => ((random_Choose.f k a0 l2).bind fun bt146 => (if bt142.1 > 2147483647 then (petrinetlaw52_RandomRanges.j0 k a0 a1 true) else (if a1 ≥ 1 then (if a1 ≤ 2147483647 then (if bt144.1 < 0 then (petrinetlaw52_RandomRanges.j0 k a0 a1 true) else (if bt144.1 ≥ a1 then (petrinetlaw52_RandomRanges.j0 k a0 a1 true) else (if bt146.1 ≥ (l2.length : Int) then (petrinetlaw52_RandomRanges.j0 k a0 a1 true) else (if bt146.1 ≥ 0 then (if 0 ≤ bt146.1 then (if bt146.1 < (l2.length : Int) then (petrinetlaw52_RandomRanges.j0 k a0 a1 (decide ((rd l2 bt146.1) < 1))) else (none)) else (none)) else (petrinetlaw52_RandomRanges.j0 k a0 a1 false))))) else (if bt146.1 ≥ (l2.length : Int) then (petrinetlaw52_RandomRanges.j0 k a0 a1 true) else (if bt146.1 ≥ 0 then (if 0 ≤ bt146.1 then (if bt146.1 < (l2.length : Int) then (petrinetlaw52_RandomRanges.j0 k a0 a1 (decide ((rd l2 bt146.1) < 1))) else (none)) else (none)) else (petrinetlaw52_RandomRanges.j0 k a0 a1 false)))) else (if bt146.1 ≥ (l2.length : Int) then (petrinetlaw52_RandomRanges.j0 k a0 a1 true) else (if bt146.1 ≥ 0 then (if 0 ≤ bt146.1 then (if bt146.1 < (l2.length : Int) then (petrinetlaw52_RandomRanges.j0 k a0 a1 (decide ((rd l2 bt146.1) < 1))) else (none)) else (none)) else (petrinetlaw52_RandomRanges.j0 k a0 a1 false))))))))
theorem petrinetlaw52_RandomRanges.mono_l : ∀ k, (∀ y0 y1 y2, LeO (petrinetlaw52_RandomRanges.j0 k y0 y1 y2) (petrinetlaw52_RandomRanges.j0 (k + 1) y0 y1 y2)) ∧ (∀ y0 y1 y2 y3, LeO (petrinetlaw52_RandomRanges.l0 k y0 y1 y2 y3) (petrinetlaw52_RandomRanges.l0 (k + 1) y0 y1 y2 y3))
  | 0 => ⟨fun _ _ _ r h => by simp [petrinetlaw52_RandomRanges.j0] at h, fun _ _ _ _ r h => by simp [petrinetlaw52_RandomRanges.l0] at h⟩
  | k + 1 => by
    obtain ⟨ih0, ih1⟩ := petrinetlaw52_RandomRanges.mono_l k
    refine ⟨?_, ?_⟩
    · intro y0 y1 y2
      unfold petrinetlaw52_RandomRanges.j0
      repeat' first
      | (with_reducible exact ih0 _ _ _)
      | (with_reducible exact ih1 _ _ _ _)
      | (with_reducible exact petrinetlaw52_alive.mono _)
      | (with_reducible exact random_Choose.mono _ _ _)
      | (with_reducible exact LeO.refl _)
      | (with_reducible exact LeO.none _)
      | (with_reducible refine LeO.ite ?_ ?_)
      | (with_reducible refine LeO.bind ?_ (fun _ => ?_))
      | exact ih0 _ _ _
      | exact ih1 _ _ _ _
      | exact petrinetlaw52_alive.mono _
      | exact random_Choose.mono _ _ _
      | exact LeO.none _
      | refine LeO.ite ?_ ?_
      | refine LeO.bind ?_ (fun _ => ?_)
    · intro y0 y1 y2 y3
      unfold petrinetlaw52_RandomRanges.l0
      repeat' first
      | (with_reducible exact ih0 _ _ _)
      | (with_reducible exact ih1 _ _ _ _)
      | (with_reducible exact petrinetlaw52_alive.mono _)
      | (with_reducible exact random_Choose.mono _ _ _)
      | (with_reducible exact LeO.refl _)
      | (with_reducible exact LeO.none _)
      | (with_reducible refine LeO.ite ?_ ?_)
      | (with_reducible refine LeO.bind ?_ (fun _ => ?_))
      | exact ih0 _ _ _
      | exact ih1 _ _ _ _
      | exact petrinetlaw52_alive.mono _
      | exact random_Choose.mono _ _ _
      | exact LeO.none _
      | refine LeO.ite ?_ ?_
      | refine LeO.bind ?_ (fun _ => ?_)
theorem petrinetlaw52_RandomRanges.mono : ∀ a0 a1 a2 k, LeO (petrinetlaw52_RandomRanges.f k a0 a1 a2) (petrinetlaw52_RandomRanges.f (k + 1) a0 a1 a2) := by
  intro a0 a1 a2 k
  obtain ⟨ih0, ih1⟩ := petrinetlaw52_RandomRanges.mono_l k
  unfold petrinetlaw52_RandomRanges.f
  repeat' first
      | (with_reducible exact ih0 _ _ _)
      | (with_reducible exact ih1 _ _ _ _)
      | (with_reducible exact petrinetlaw52_alive.mono _)
      | (with_reducible exact random_Choose.mono _ _ _)
      | (with_reducible exact LeO.refl _)
      | (with_reducible exact LeO.none _)
      | (with_reducible refine LeO.ite ?_ ?_)
      | (with_reducible refine LeO.bind ?_ (fun _ => ?_))
      | exact ih0 _ _ _
      | exact ih1 _ _ _ _
      | exact petrinetlaw52_alive.mono _
      | exact random_Choose.mono _ _ _
      | exact LeO.none _
      | refine LeO.ite ?_ ?_
      | refine LeO.bind ?_ (fun _ => ?_)
set_option maxHeartbeats 8000000 in
set_option maxRecDepth 100000 in
theorem petrinetlaw52_RandomRanges.calls (k : Nat) (a0 : Int) (a1 : Int) (A2 : Option Addr) (c2 : Nat) (l2 : List Int) (r : Bool) (w : World) (hr2 : Kd.C (Kd.int .i64) w A2 l2.length l2) (hc2 : l2.length ≤ c2) (h : petrinetlaw52_RandomRanges.f k a0 a1 l2 = some r) :
    Calls Try.prog 8 #[.int .u64 a0, .int .i64 a1, .slice A2 l2.length c2] w fun e w' => e = .returned (.bool r) ∧ Below w.heap.size w w' := by
  have HR2 := Aside0.mk hr2
  have HC2 := Aside0.mk hc2
  clear hr2 hc2
  have HB := Aside0.mk (Below.refl w.heap.size w)
  have H : (if (l2.length : Int) > 80 then ((petrinetlaw52_alive.f k).bind fun t141 => (some t141)) else ((random_Next.f a0).bind fun bt142 => ((random_Below.f a0 a1).bind fun bt144 => ((random_Choose.f k a0 l2).bind fun bt146 => (if bt142.1 > 2147483647 then (petrinetlaw52_RandomRanges.j0 k a0 a1 true) else (if a1 ≥ 1 then (if a1 ≤ 2147483647 then (if bt144.1 < 0 then (petrinetlaw52_RandomRanges.j0 k a0 a1 true) else (if bt144.1 ≥ a1 then (petrinetlaw52_RandomRanges.j0 k a0 a1 true) else (if bt146.1 ≥ (l2.length : Int) then (petrinetlaw52_RandomRanges.j0 k a0 a1 true) else (if bt146.1 ≥ 0 then (if 0 ≤ bt146.1 then (if bt146.1 < (l2.length : Int) then (petrinetlaw52_RandomRanges.j0 k a0 a1 (decide ((rd l2 bt146.1) < 1))) else (none)) else (none)) else (petrinetlaw52_RandomRanges.j0 k a0 a1 false))))) else (if bt146.1 ≥ (l2.length : Int) then (petrinetlaw52_RandomRanges.j0 k a0 a1 true) else (if bt146.1 ≥ 0 then (if 0 ≤ bt146.1 then (if bt146.1 < (l2.length : Int) then (petrinetlaw52_RandomRanges.j0 k a0 a1 (decide ((rd l2 bt146.1) < 1))) else (none)) else (none)) else (petrinetlaw52_RandomRanges.j0 k a0 a1 false)))) else (if bt146.1 ≥ (l2.length : Int) then (petrinetlaw52_RandomRanges.j0 k a0 a1 true) else (if bt146.1 ≥ 0 then (if 0 ≤ bt146.1 then (if bt146.1 < (l2.length : Int) then (petrinetlaw52_RandomRanges.j0 k a0 a1 (decide ((rd l2 bt146.1) < 1))) else (none)) else (none)) else (petrinetlaw52_RandomRanges.j0 k a0 a1 false))))))))) = some r := h
  clear h
  by_cases c4 : (l2.length : Int) > 80
  · rw [if_pos c4] at H
    have c4b0 : decide (80 < (l2.length : Int)) = true := decide_eq_true c4
    have c4b1 : decide (80 < l2.length) = true := decide_eq_true (by omega)
    clear c4
    replace H := Option.bind_eq_some_iff.mp H
    obtain ⟨t141, A50, H⟩ := H
    replace H : (some t141) = some r := H
    have A5 := Aside0.mk A50
    clear A50
    obtain rfl := Option.some.inj H
    go_enter Try.func8, Try.ntmps8
    go_wp2_with (first | ((with_reducible refine gate_callee (f := 13) rfl ?_); refine goesL_ (some 20) rfl rfl Try.func13 (by kernel_rfl) rfl #[] rfl (by (try simp only [List.map_toArray, List.map_cons, List.map_nil]); first | done | rfl | (simp only [List.length_drop, List.length_take]; rfl)) ?_; (with_reducible refine (petrinetlaw52_alive.calls k  t141 _ A5.out).mono ?_); rintro e w6 ⟨rfl, hb⟩; refine ⟨_, rfl, ?_⟩; have n0_ := Aside0.mk (below_step (by repeat (first | (with_reducible first | exact HB.out | apply below_alloc | apply pw_below_drewN | apply below_drew1) | exact HB.out)) hb); clear HB; have HB := n0_; clear n0_; (try clear hb); (try clear hb2); (try clear hk); (try clear hi)))
    go_ret
    exact ⟨by first | rfl | (simp [errW_none, errW_some] <;> rfl) | (simp [*, errW_none, errW_some] <;> rfl), by repeat (first | (with_reducible first | exact HB.out | apply below_alloc | apply pw_below_drewN | apply below_drew1) | exact HB.out)⟩
  · rw [if_neg c4] at H
    have c4b0 : decide (80 < (l2.length : Int)) = false := decide_eq_false c4
    have c4b1 : decide (80 < l2.length) = false := decide_eq_false (by omega)
    clear c4
    replace H := Option.bind_eq_some_iff.mp H
    obtain ⟨⟨t142, t143⟩, A70, H⟩ := H
    replace H : ((random_Below.f a0 a1).bind fun bt144 => ((random_Choose.f k a0 l2).bind fun bt146 => (if t142 > 2147483647 then (petrinetlaw52_RandomRanges.j0 k a0 a1 true) else (if a1 ≥ 1 then (if a1 ≤ 2147483647 then (if bt144.1 < 0 then (petrinetlaw52_RandomRanges.j0 k a0 a1 true) else (if bt144.1 ≥ a1 then (petrinetlaw52_RandomRanges.j0 k a0 a1 true) else (if bt146.1 ≥ (l2.length : Int) then (petrinetlaw52_RandomRanges.j0 k a0 a1 true) else (if bt146.1 ≥ 0 then (if 0 ≤ bt146.1 then (if bt146.1 < (l2.length : Int) then (petrinetlaw52_RandomRanges.j0 k a0 a1 (decide ((rd l2 bt146.1) < 1))) else (none)) else (none)) else (petrinetlaw52_RandomRanges.j0 k a0 a1 false))))) else (if bt146.1 ≥ (l2.length : Int) then (petrinetlaw52_RandomRanges.j0 k a0 a1 true) else (if bt146.1 ≥ 0 then (if 0 ≤ bt146.1 then (if bt146.1 < (l2.length : Int) then (petrinetlaw52_RandomRanges.j0 k a0 a1 (decide ((rd l2 bt146.1) < 1))) else (none)) else (none)) else (petrinetlaw52_RandomRanges.j0 k a0 a1 false)))) else (if bt146.1 ≥ (l2.length : Int) then (petrinetlaw52_RandomRanges.j0 k a0 a1 true) else (if bt146.1 ≥ 0 then (if 0 ≤ bt146.1 then (if bt146.1 < (l2.length : Int) then (petrinetlaw52_RandomRanges.j0 k a0 a1 (decide ((rd l2 bt146.1) < 1))) else (none)) else (none)) else (petrinetlaw52_RandomRanges.j0 k a0 a1 false))))))) = some r := H
    have A7 := Aside0.mk A70
    clear A70
    replace H := Option.bind_eq_some_iff.mp H
    obtain ⟨⟨t144, t145⟩, A80, H⟩ := H
    replace H : ((random_Choose.f k a0 l2).bind fun bt146 => (if t142 > 2147483647 then (petrinetlaw52_RandomRanges.j0 k a0 a1 true) else (if a1 ≥ 1 then (if a1 ≤ 2147483647 then (if t144 < 0 then (petrinetlaw52_RandomRanges.j0 k a0 a1 true) else (if t144 ≥ a1 then (petrinetlaw52_RandomRanges.j0 k a0 a1 true) else (if bt146.1 ≥ (l2.length : Int) then (petrinetlaw52_RandomRanges.j0 k a0 a1 true) else (if bt146.1 ≥ 0 then (if 0 ≤ bt146.1 then (if bt146.1 < (l2.length : Int) then (petrinetlaw52_RandomRanges.j0 k a0 a1 (decide ((rd l2 bt146.1) < 1))) else (none)) else (none)) else (petrinetlaw52_RandomRanges.j0 k a0 a1 false))))) else (if bt146.1 ≥ (l2.length : Int) then (petrinetlaw52_RandomRanges.j0 k a0 a1 true) else (if bt146.1 ≥ 0 then (if 0 ≤ bt146.1 then (if bt146.1 < (l2.length : Int) then (petrinetlaw52_RandomRanges.j0 k a0 a1 (decide ((rd l2 bt146.1) < 1))) else (none)) else (none)) else (petrinetlaw52_RandomRanges.j0 k a0 a1 false)))) else (if bt146.1 ≥ (l2.length : Int) then (petrinetlaw52_RandomRanges.j0 k a0 a1 true) else (if bt146.1 ≥ 0 then (if 0 ≤ bt146.1 then (if bt146.1 < (l2.length : Int) then (petrinetlaw52_RandomRanges.j0 k a0 a1 (decide ((rd l2 bt146.1) < 1))) else (none)) else (none)) else (petrinetlaw52_RandomRanges.j0 k a0 a1 false)))))) = some r := H
    have A8 := Aside0.mk A80
    clear A80
    replace H := Option.bind_eq_some_iff.mp H
    obtain ⟨⟨t146, t147⟩, A90, H⟩ := H
    replace H : (if t142 > 2147483647 then (petrinetlaw52_RandomRanges.j0 k a0 a1 true) else (if a1 ≥ 1 then (if a1 ≤ 2147483647 then (if t144 < 0 then (petrinetlaw52_RandomRanges.j0 k a0 a1 true) else (if t144 ≥ a1 then (petrinetlaw52_RandomRanges.j0 k a0 a1 true) else (if t146 ≥ (l2.length : Int) then (petrinetlaw52_RandomRanges.j0 k a0 a1 true) else (if t146 ≥ 0 then (if 0 ≤ t146 then (if t146 < (l2.length : Int) then (petrinetlaw52_RandomRanges.j0 k a0 a1 (decide ((rd l2 t146) < 1))) else (none)) else (none)) else (petrinetlaw52_RandomRanges.j0 k a0 a1 false))))) else (if t146 ≥ (l2.length : Int) then (petrinetlaw52_RandomRanges.j0 k a0 a1 true) else (if t146 ≥ 0 then (if 0 ≤ t146 then (if t146 < (l2.length : Int) then (petrinetlaw52_RandomRanges.j0 k a0 a1 (decide ((rd l2 t146) < 1))) else (none)) else (none)) else (petrinetlaw52_RandomRanges.j0 k a0 a1 false)))) else (if t146 ≥ (l2.length : Int) then (petrinetlaw52_RandomRanges.j0 k a0 a1 true) else (if t146 ≥ 0 then (if 0 ≤ t146 then (if t146 < (l2.length : Int) then (petrinetlaw52_RandomRanges.j0 k a0 a1 (decide ((rd l2 t146) < 1))) else (none)) else (none)) else (petrinetlaw52_RandomRanges.j0 k a0 a1 false))))) = some r := H
    have A9 := Aside0.mk A90
    clear A90
    have HC10 := Aside0.mk H
    clear H
    go_enter Try.func8, Try.ntmps8
    go_upto_region 6 with (first | ((with_reducible refine gate_callee (f := 9) rfl ?_); refine goesL_ (some 23) rfl rfl Try.func9 (by kernel_rfl) rfl #[.int .u64 a0] rfl (by (try simp only [List.map_toArray, List.map_cons, List.map_nil]); first | done | rfl | (simp only [List.length_drop, List.length_take]; rfl)) ?_; (with_reducible refine (random_Next.calls a0 t142 t143 _ A7.out).mono ?_); rintro e w' ⟨rfl, ⟨nd, rfl⟩⟩; refine ⟨_, rfl, ?_⟩) | ((with_reducible refine gate_callee (f := 11) rfl ?_); refine goesL_ (some 29) rfl rfl Try.func11 (by kernel_rfl) rfl #[.int .u64 a0, .int .i64 a1] rfl (by (try simp only [List.map_toArray, List.map_cons, List.map_nil]); first | done | rfl | (simp only [List.length_drop, List.length_take]; rfl)) ?_; (with_reducible refine (random_Below.calls a0 a1 t144 t145 _ A8.out).mono ?_); rintro e w' ⟨rfl, ⟨nd, rfl⟩⟩; refine ⟨_, rfl, ?_⟩) | ((with_reducible refine gate_callee (f := 14) rfl ?_); refine goesL_ (some 35) rfl rfl Try.func14 (by kernel_rfl) rfl #[.int .u64 a0, .slice A2 l2.length c2] rfl (by (try simp only [List.map_toArray, List.map_cons, List.map_nil]); first | done | rfl | (simp only [List.length_drop, List.length_take]; rfl)) ?_; (with_reducible refine (random_Choose.calls k a0 _ _ l2 t146 t147 _ ?side1 ?side2 A9.out).mono ?_); (case side1 => repeat (first | exact HR2.out | (with_reducible refine Kd.C_alloc ?_ _) | (with_reducible refine Kd.C_drewN ?_ _) | (with_reducible refine Kd.C_drew ?_))); (case side2 => exact HC2.out); rintro e w' ⟨rfl, ⟨nd, rfl⟩⟩; refine ⟨_, rfl, ?_⟩))
    (try simp only [Act.put, List.setIfInBounds_toArray, List.set_cons_zero, List.set_cons_succ])
    go_cut [73] (fun v73 wc => ∃ (kq : Nat) (x73_9 : Bool), v73 = .bool x73_9 ∧ Aside0 (petrinetlaw52_RandomRanges.j0 kq a0 a1 x73_9 = some r) ∧ Aside0 (kq ≤ k) ∧ Aside0 (Below w.heap.size w wc))
    case first =>
      have H := HC10.out
      clear HC10
      by_cases c11 : t142 > 2147483647
      · rw [if_pos c11] at H
        have c11b0 : decide (2147483647 < t142) = true := decide_eq_true c11
        clear c11
        (first | rw [c11b0] | (simp only [i64_w, i32_w]; rw [c11b0]) | skip)
        have H' := Aside0.mk H
        clear H
        go_wp2
        go_meet
        case rel => exact ⟨_, (true), (by first | rfl | (simp; done) | (simp [*]; done)), H', ⟨by first | omega | exact Nat.le_refl _⟩, ⟨by repeat (first | (with_reducible first | exact HB.out | apply below_alloc | apply pw_below_drewN | apply below_drew1) | exact HB.out)⟩⟩
      · rw [if_neg c11] at H
        have c11b0 : decide (2147483647 < t142) = false := decide_eq_false c11
        clear c11
        (first | rw [c11b0] | (simp only [i64_w, i32_w]; rw [c11b0]) | skip)
        by_cases c12 : a1 ≥ 1
        · rw [if_pos c12] at H
          have c12b0 : decide (1 ≤ a1) = true := decide_eq_true c12
          clear c12
          by_cases c13 : a1 ≤ 2147483647
          · rw [if_pos c13] at H
            have c13b0 : decide (a1 ≤ 2147483647) = true := decide_eq_true c13
            clear c13
            by_cases c14 : t144 < 0
            · rw [if_pos c14] at H
              have c14b0 : decide (t144 < 0) = true := decide_eq_true c14
              clear c14
              have H' := Aside0.mk H
              clear H
              go_wp2
              go_meet
              case rel => exact ⟨_, (true), (by first | rfl | (simp; done) | (simp [*]; done)), H', ⟨by first | omega | exact Nat.le_refl _⟩, ⟨by repeat (first | (with_reducible first | exact HB.out | apply below_alloc | apply pw_below_drewN | apply below_drew1) | exact HB.out)⟩⟩
            · rw [if_neg c14] at H
              have c14b0 : decide (t144 < 0) = false := decide_eq_false c14
              clear c14
              by_cases c15 : t144 ≥ a1
              · rw [if_pos c15] at H
                have c15b0 : decide (a1 ≤ t144) = true := decide_eq_true c15
                clear c15
                have H' := Aside0.mk H
                clear H
                go_wp2
                go_meet
                case rel => exact ⟨_, (true), (by first | rfl | (simp; done) | (simp [*]; done)), H', ⟨by first | omega | exact Nat.le_refl _⟩, ⟨by repeat (first | (with_reducible first | exact HB.out | apply below_alloc | apply pw_below_drewN | apply below_drew1) | exact HB.out)⟩⟩
              · rw [if_neg c15] at H
                have c15b0 : decide (a1 ≤ t144) = false := decide_eq_false c15
                clear c15
                by_cases c16 : t146 ≥ (l2.length : Int)
                · rw [if_pos c16] at H
                  have c16b0 : decide ((l2.length : Int) ≤ t146) = true := decide_eq_true c16
                  clear c16
                  have H' := Aside0.mk H
                  clear H
                  go_wp2
                  go_meet
                  case rel => exact ⟨_, (true), (by first | rfl | (simp; done) | (simp [*]; done)), H', ⟨by first | omega | exact Nat.le_refl _⟩, ⟨by repeat (first | (with_reducible first | exact HB.out | apply below_alloc | apply pw_below_drewN | apply below_drew1) | exact HB.out)⟩⟩
                · rw [if_neg c16] at H
                  have c16b0 : decide ((l2.length : Int) ≤ t146) = false := decide_eq_false c16
                  clear c16
                  by_cases c17 : t146 ≥ 0
                  · rw [if_pos c17] at H
                    have c17b0 : decide (0 ≤ t146) = true := decide_eq_true c17
                    clear c17
                    by_cases c18 : 0 ≤ t146
                    · rw [if_pos c18] at H
                      have c18b0 : decide (0 ≤ t146) = true := decide_eq_true c18
                      clear c18
                      by_cases c19 : t146 < (l2.length : Int)
                      · rw [if_pos c19] at H
                        have c19b0 : decide (t146 < (l2.length : Int)) = true := decide_eq_true c19
                        clear c19
                        have H' := Aside0.mk H
                        clear H
                        have p148 : 0 ≤ (t146 : Int) := of_decide_eq_true (by first | (with_reducible assumption) | assumption)
                        have q148 : t146 < (l2.length : Int) := of_decide_eq_true (by first | (with_reducible assumption) | assumption)
                        obtain ⟨ad148, e148, hx148_0⟩ := Kd.at_int HR2.out t146 p148 q148
                        cases e148
                        replace hx148_0 := (HB.out.cell (World.block_lt_of_cell? w _ hx148_0)).trans hx148_0
                        replace p148 := eq_true p148
                        replace q148 := eq_true q148
                        go_wp2
                        go_meet
                        case rel => exact ⟨_, (decide ((rd l2 t146) < 1)), (by first | rfl | (simp; done) | (simp [*]; done)), H', ⟨by first | omega | exact Nat.le_refl _⟩, ⟨by repeat (first | (with_reducible first | exact HB.out | apply below_alloc | apply pw_below_drewN | apply below_drew1) | exact HB.out)⟩⟩
                      · rw [if_neg c19] at H
                        exact absurd H (by simp)
                    · rw [if_neg c18] at H
                      exact absurd H (by simp)
                  · rw [if_neg c17] at H
                    have c17b0 : decide (0 ≤ t146) = false := decide_eq_false c17
                    clear c17
                    have H' := Aside0.mk H
                    clear H
                    go_wp2
                    go_meet
                    case rel => exact ⟨_, (false), (by first | rfl | (simp; done) | (simp [*]; done)), H', ⟨by first | omega | exact Nat.le_refl _⟩, ⟨by repeat (first | (with_reducible first | exact HB.out | apply below_alloc | apply pw_below_drewN | apply below_drew1) | exact HB.out)⟩⟩
          · rw [if_neg c13] at H
            have c13b0 : decide (a1 ≤ 2147483647) = false := decide_eq_false c13
            clear c13
            by_cases c20 : t146 ≥ (l2.length : Int)
            · rw [if_pos c20] at H
              have c20b0 : decide ((l2.length : Int) ≤ t146) = true := decide_eq_true c20
              clear c20
              have H' := Aside0.mk H
              clear H
              go_wp2
              go_meet
              case rel => exact ⟨_, (true), (by first | rfl | (simp; done) | (simp [*]; done)), H', ⟨by first | omega | exact Nat.le_refl _⟩, ⟨by repeat (first | (with_reducible first | exact HB.out | apply below_alloc | apply pw_below_drewN | apply below_drew1) | exact HB.out)⟩⟩
            · rw [if_neg c20] at H
              have c20b0 : decide ((l2.length : Int) ≤ t146) = false := decide_eq_false c20
              clear c20
              by_cases c21 : t146 ≥ 0
              · rw [if_pos c21] at H
                have c21b0 : decide (0 ≤ t146) = true := decide_eq_true c21
                clear c21
                by_cases c22 : 0 ≤ t146
                · rw [if_pos c22] at H
                  have c22b0 : decide (0 ≤ t146) = true := decide_eq_true c22
                  clear c22
                  by_cases c23 : t146 < (l2.length : Int)
                  · rw [if_pos c23] at H
                    have c23b0 : decide (t146 < (l2.length : Int)) = true := decide_eq_true c23
                    clear c23
                    have H' := Aside0.mk H
                    clear H
                    have p149 : 0 ≤ (t146 : Int) := of_decide_eq_true (by first | (with_reducible assumption) | assumption)
                    have q149 : t146 < (l2.length : Int) := of_decide_eq_true (by first | (with_reducible assumption) | assumption)
                    obtain ⟨ad149, e149, hx149_0⟩ := Kd.at_int HR2.out t146 p149 q149
                    cases e149
                    replace hx149_0 := (HB.out.cell (World.block_lt_of_cell? w _ hx149_0)).trans hx149_0
                    replace p149 := eq_true p149
                    replace q149 := eq_true q149
                    go_wp2
                    go_meet
                    case rel => exact ⟨_, (decide ((rd l2 t146) < 1)), (by first | rfl | (simp; done) | (simp [*]; done)), H', ⟨by first | omega | exact Nat.le_refl _⟩, ⟨by repeat (first | (with_reducible first | exact HB.out | apply below_alloc | apply pw_below_drewN | apply below_drew1) | exact HB.out)⟩⟩
                  · rw [if_neg c23] at H
                    exact absurd H (by simp)
                · rw [if_neg c22] at H
                  exact absurd H (by simp)
              · rw [if_neg c21] at H
                have c21b0 : decide (0 ≤ t146) = false := decide_eq_false c21
                clear c21
                have H' := Aside0.mk H
                clear H
                go_wp2
                go_meet
                case rel => exact ⟨_, (false), (by first | rfl | (simp; done) | (simp [*]; done)), H', ⟨by first | omega | exact Nat.le_refl _⟩, ⟨by repeat (first | (with_reducible first | exact HB.out | apply below_alloc | apply pw_below_drewN | apply below_drew1) | exact HB.out)⟩⟩
        · rw [if_neg c12] at H
          have c12b0 : decide (1 ≤ a1) = false := decide_eq_false c12
          clear c12
          by_cases c24 : t146 ≥ (l2.length : Int)
          · rw [if_pos c24] at H
            have c24b0 : decide ((l2.length : Int) ≤ t146) = true := decide_eq_true c24
            clear c24
            have H' := Aside0.mk H
            clear H
            go_wp2
            go_meet
            case rel => exact ⟨_, (true), (by first | rfl | (simp; done) | (simp [*]; done)), H', ⟨by first | omega | exact Nat.le_refl _⟩, ⟨by repeat (first | (with_reducible first | exact HB.out | apply below_alloc | apply pw_below_drewN | apply below_drew1) | exact HB.out)⟩⟩
          · rw [if_neg c24] at H
            have c24b0 : decide ((l2.length : Int) ≤ t146) = false := decide_eq_false c24
            clear c24
            by_cases c25 : t146 ≥ 0
            · rw [if_pos c25] at H
              have c25b0 : decide (0 ≤ t146) = true := decide_eq_true c25
              clear c25
              by_cases c26 : 0 ≤ t146
              · rw [if_pos c26] at H
                have c26b0 : decide (0 ≤ t146) = true := decide_eq_true c26
                clear c26
                by_cases c27 : t146 < (l2.length : Int)
                · rw [if_pos c27] at H
                  have c27b0 : decide (t146 < (l2.length : Int)) = true := decide_eq_true c27
                  clear c27
                  have H' := Aside0.mk H
                  clear H
                  have p150 : 0 ≤ (t146 : Int) := of_decide_eq_true (by first | (with_reducible assumption) | assumption)
                  have q150 : t146 < (l2.length : Int) := of_decide_eq_true (by first | (with_reducible assumption) | assumption)
                  obtain ⟨ad150, e150, hx150_0⟩ := Kd.at_int HR2.out t146 p150 q150
                  cases e150
                  replace hx150_0 := (HB.out.cell (World.block_lt_of_cell? w _ hx150_0)).trans hx150_0
                  replace p150 := eq_true p150
                  replace q150 := eq_true q150
                  go_wp2
                  go_meet
                  case rel => exact ⟨_, (decide ((rd l2 t146) < 1)), (by first | rfl | (simp; done) | (simp [*]; done)), H', ⟨by first | omega | exact Nat.le_refl _⟩, ⟨by repeat (first | (with_reducible first | exact HB.out | apply below_alloc | apply pw_below_drewN | apply below_drew1) | exact HB.out)⟩⟩
                · rw [if_neg c27] at H
                  exact absurd H (by simp)
              · rw [if_neg c26] at H
                exact absurd H (by simp)
            · rw [if_neg c25] at H
              have c25b0 : decide (0 ≤ t146) = false := decide_eq_false c25
              clear c25
              have H' := Aside0.mk H
              clear H
              go_wp2
              go_meet
              case rel => exact ⟨_, (false), (by first | rfl | (simp; done) | (simp [*]; done)), H', ⟨by first | omega | exact Nat.le_refl _⟩, ⟨by repeat (first | (with_reducible first | exact HB.out | apply below_alloc | apply pw_below_drewN | apply below_drew1) | exact HB.out)⟩⟩
    case rest =>
      clear HC10
      try clear c1
      try clear p1
      try clear q1
      try clear hx1
      try clear c2
      try clear p2
      try clear c4
      try clear c4b0
      try clear c4b1
      try clear c8
      try clear c9
      try clear c11
      try clear c11b0
      try clear c12
      try clear c12b0
      try clear c13
      try clear c13b0
      try clear c14
      try clear c14b0
      try clear p14
      try clear q14
      try clear hx14
      try clear c15
      try clear c15b0
      try clear p15
      try clear q15
      try clear hx15
      try clear c16
      try clear c16b0
      try clear c17
      try clear c17b0
      try clear c18
      try clear c18b0
      try clear c19
      try clear c19b0
      try clear c20
      try clear c20b0
      try clear c21
      try clear c21b0
      try clear c22
      try clear c22b0
      try clear c23
      try clear c23b0
      try clear c24
      try clear c24b0
      try clear c25
      try clear c25b0
      try clear c26
      try clear c26b0
      try clear c27
      try clear c27b0
      try clear hx148_0
      try clear hx149_0
      try clear hx150_0
      try clear p148
      try clear p149
      try clear p150
      try clear q148
      try clear q149
      try clear q150
      obtain ⟨kq, x73_9, rfl, HA, HJ9, HB⟩ := hcut
      cases kq with
      | zero => exact absurd HA.out (by simp [petrinetlaw52_RandomRanges.j0])
      | succ kj9 =>
        have H := HA.out
        clear HA
        simp only [petrinetlaw52_RandomRanges.j0] at H
        by_cases c28 : x73_9 = true
        · subst c28
          have H1 : (some false) = some r := by rw [if_pos rfl] at H; exact H
          clear H
          have H := H1
          clear H1
          obtain rfl := Option.some.inj H
          go_wp2
          go_ret
          exact ⟨by first | rfl | (simp [errW_none, errW_some] <;> rfl) | (simp [*, errW_none, errW_some] <;> rfl), by repeat (first | (with_reducible first | exact HB.out | apply below_alloc | apply pw_below_drewN | apply below_drew1) | exact HB.out)⟩
        · replace c28 := Bool.eq_false_iff.mpr c28
          subst c28
          have H1 : ((random_Shuffle.f a0 a1).bind fun bt151 => (if 0 ≤ (bt151.1.length : Int) then (if ((bt151.1.length : Int) : Int).toNat ≤ 281474976710656 then (petrinetlaw52_RandomRanges.l0 kj9 a1 bt151.1 (List.replicate ((bt151.1.length : Int) : Int).toNat false) 0) else (none)) else (none))) = some r := by rw [if_neg (show ¬ (false = true) by decide)] at H; exact H
          clear H
          have H := H1
          clear H1
          replace H := Option.bind_eq_some_iff.mp H
          obtain ⟨⟨t151, t152⟩, A290, H⟩ := H
          replace H : (if 0 ≤ (t151.length : Int) then (if ((t151.length : Int) : Int).toNat ≤ 281474976710656 then (petrinetlaw52_RandomRanges.l0 kj9 a1 t151 (List.replicate ((t151.length : Int) : Int).toNat false) 0) else (none)) else (none)) = some r := H
          have A29 := Aside0.mk A290
          clear A290
          by_cases c30 : 0 ≤ (t151.length : Int)
          · rw [if_pos c30] at H
            have c30b0 := eq_true c30
            have c30b1 : decide (0 ≤ (t151.length : Int)) = true := decide_eq_true c30
            clear c30
            by_cases c31 : ((t151.length : Int) : Int).toNat ≤ 281474976710656
            · rw [if_pos c31] at H
              have c31b0 := eq_true c31
              have c31b1 : decide (((t151.length : Int) : Int).toNat ≤ 281474976710656) = true := decide_eq_true c31
              clear c31
              obtain ⟨y155, hy155⟩ : ∃ y_ : List Bool, y_ = (List.replicate ((t151.length : Int) : Int).toNat false) := ⟨_, rfl⟩
              replace H : (petrinetlaw52_RandomRanges.l0 kj9 a1 t151 y155 0) = some r := by first | (rw [hy155]; with_reducible exact H) | (have H2_ := (Option.bind_some _ _).symm.trans H; rw [hy155]; with_reducible exact H2_) | (have H2_ := (Option.bind_some _ _).symm.trans H; with_reducible exact H2_) | with_reducible exact H | (rw [hy155]; exact H) | exact H
              have Ny155 := Aside0.mk hy155
              clear hy155
              have H' := Aside0.mk H
              clear H
              go_wp2_with (first | ((with_reducible refine gate_callee (f := 18) rfl ?_); refine goesL_ (some 77) rfl rfl Try.func18 (by kernel_rfl) rfl #[.int .u64 a0, .int .i64 a1] rfl (by (try simp only [List.map_toArray, List.map_cons, List.map_nil]); first | done | rfl | (simp only [List.length_drop, List.length_take]; rfl)) ?_; (with_reducible refine (random_Shuffle.calls a0 a1 t151 t152 _ A29.out).mono ?_); rintro e w32 ⟨v153, rfl, ho0, hb⟩; refine ⟨_, rfl, ?_⟩; have n0_ := Aside0.mk (Kd.R_lower ho0 (below_size (by repeat (first | (with_reducible first | exact HB.out | apply below_alloc | apply pw_below_drewN | apply below_drew1) | exact HB.out)))); have n1_ := Aside0.mk (below_step (by repeat (first | (with_reducible first | exact HB.out | apply below_alloc | apply pw_below_drewN | apply below_drew1) | exact HB.out)) hb); clear HB; have HO154 := n0_; have HB := n1_; clear n0_ n1_; (try clear hb); (try clear hb2); (try clear hk); (try clear hi); (try clear ho0); obtain ⟨Ao33, co33, eo33⟩ := Kd.R_slice HO154.out; subst eo33) | ((with_reducible refine gate_dst (N := 82) rfl ?_); (try (refine gate_guard (by rfl) ?_; dsimp only)); refine Kd.R_make Kd.bool _ 4 rfl (N := 82) rfl 38 _ _ rfl (t151.length : Int) rfl rfl Try.underlying38 (.bool false) 1 info4 rfl (by decide) (by omega) false (ok := fun _ => True) (okp := fun _ => True) rfl (fun _ hk => hk) trivial (of_decide_eq_true (by first | (with_reducible assumption) | assumption)) (Nat.le_trans (Nat.mul_le_mul_right _ (of_decide_eq_true (by first | (with_reducible assumption) | assumption) : (t151.length : Int).toNat ≤ 281474976710656)) (by omega)) (Below.refl _ _) (Nat.le_refl _) ?_; intro v156 w34 ho35 hb hg_ hnew_; clear hg_ hnew_; (first | rw [← Ny155.out] at ho35 | (simp only [Int.reduceToNat] at ho35; rw [← Ny155.out] at ho35)); have n0_ := Aside0.mk (Kd.R_below (by (with_reducible repeat (first | apply Kd.R_alloc | apply Kd.R_drewN | apply Kd.R_drew)); exact HO154.out) hb); have n1_ := Aside0.mk (Kd.R_lower ho35 (below_size (by repeat (first | (with_reducible first | exact HB.out | apply below_alloc | apply pw_below_drewN | apply below_drew1) | exact HB.out)))); have n2_ := Aside0.mk (below_step (by repeat (first | (with_reducible first | exact HB.out | apply below_alloc | apply pw_below_drewN | apply below_drew1) | exact HB.out)) hb); clear HO154; clear HB; have HO154 := n0_; have HO157 := n1_; have HB := n2_; clear n0_ n1_ n2_; clear hb ho35))
              go_loopg [16] kj9 (fun kq v16 w' => ∃ (x15_2 : List Bool) (x16_2 : Int), v16 = .int .i64 x16_2 ∧ Aside0 (petrinetlaw52_RandomRanges.l0 kq a1 t151 x15_2 x16_2 = some r) ∧ Aside0 (kq ≤ kj9) ∧ Aside0 (Kd.R (Kd.int .i64) 3 w' w.heap.size (fun _ => True) (.slice Ao33 t151.length co33) t151) ∧ Aside0 (Kd.R Kd.bool 4 w' w.heap.size (fun _ => True) v156 x15_2) ∧ Aside0 (Below w.heap.size w w'))
              case atStart => exact ⟨(y155), (0), (by first | rfl | (simp; done) | (simp [*]; done)), H', ⟨Nat.le_refl _⟩, ⟨by (with_reducible repeat (first | apply Kd.R_alloc | apply Kd.R_drewN | apply Kd.R_drew)); exact HO154.out⟩, ⟨by (with_reducible repeat (first | apply Kd.R_alloc | apply Kd.R_drewN | apply Kd.R_drew)); exact HO157.out⟩, ⟨by repeat (first | (with_reducible first | exact HB.out | apply below_alloc | apply pw_below_drewN | apply below_drew1) | exact HB.out)⟩⟩
              case round =>
                clear H'
                try clear c1
                try clear p1
                try clear q1
                try clear hx1
                try clear c2
                try clear p2
                try clear c3
                try clear c4
                try clear c4b0
                try clear c4b1
                try clear c8
                try clear c9
                try clear c11
                try clear c11b0
                try clear c12
                try clear c12b0
                try clear c13
                try clear c13b0
                try clear c14
                try clear c14b0
                try clear p14
                try clear q14
                try clear hx14
                try clear c15
                try clear c15b0
                try clear p15
                try clear q15
                try clear hx15
                try clear c16
                try clear c16b0
                try clear c17
                try clear c17b0
                try clear c18
                try clear c18b0
                try clear c19
                try clear c19b0
                try clear c20
                try clear c20b0
                try clear c21
                try clear c21b0
                try clear c22
                try clear c22b0
                try clear c23
                try clear c23b0
                try clear c24
                try clear c24b0
                try clear c25
                try clear c25b0
                try clear c26
                try clear c26b0
                try clear c27
                try clear c27b0
                try clear c28
                try clear c30
                try clear c30b0
                try clear c30b1
                try clear c31
                try clear c31b0
                try clear c31b1
                try clear hx148_0
                try clear hx149_0
                try clear hx150_0
                try clear p1
                try clear p14
                try clear p148
                try clear p149
                try clear p15
                try clear p150
                try clear p2
                try clear q1
                try clear q14
                try clear q148
                try clear q149
                try clear q15
                try clear q150
                obtain ⟨x15_2, x16_2, rfl, HA, HK2, HO_13, HO_15, HB⟩ := hrel
                cases gk with
                | zero => exact absurd HA.out (by simp [petrinetlaw52_RandomRanges.l0])
                | succ k2 =>
                  have H := HA.out
                  clear HA
                  simp only [petrinetlaw52_RandomRanges.l0] at H
                  by_cases c36 : x16_2 < (t151.length : Int)
                  · rw [if_pos c36] at H
                    have c36b0 : decide (x16_2 < (t151.length : Int)) = true := decide_eq_true c36
                    clear c36
                    by_cases c37 : 0 ≤ x16_2
                    · rw [if_pos c37] at H
                      have c37b0 : decide (0 ≤ x16_2) = true := decide_eq_true c37
                      clear c37
                      by_cases c38 : (rd t151 x16_2) < 0
                      · rw [if_pos c38] at H
                        have c38b0 : decide ((rd t151 x16_2) < 0) = true := decide_eq_true c38
                        clear c38
                        obtain rfl := Option.some.inj H
                        have p158 : 0 ≤ (x16_2 : Int) := of_decide_eq_true (by first | (with_reducible assumption) | assumption)
                        have q158 : x16_2 < (t151.length : Int) := of_decide_eq_true (by first | (with_reducible assumption) | assumption)
                        obtain ⟨ad158, e158, hx158_0⟩ := Kd.at_int (Kd.R_reads' HO_13.out).2.2 x16_2 p158 q158
                        cases e158
                        replace p158 := eq_true p158
                        replace q158 := eq_true q158
                        go_wp2
                        go_ret
                        exact ⟨by first | rfl | (simp [errW_none, errW_some] <;> rfl) | (simp [*, errW_none, errW_some] <;> rfl), by repeat (first | (with_reducible first | exact HB.out | apply below_alloc | apply pw_below_drewN | apply below_drew1) | exact HB.out)⟩
                      · rw [if_neg c38] at H
                        have c38b0 : decide ((rd t151 x16_2) < 0) = false := decide_eq_false c38
                        clear c38
                        by_cases c39 : (rd t151 x16_2) ≥ (t151.length : Int)
                        · rw [if_pos c39] at H
                          have c39b0 : decide ((t151.length : Int) ≤ (rd t151 x16_2)) = true := decide_eq_true c39
                          clear c39
                          obtain rfl := Option.some.inj H
                          have p158 : 0 ≤ (x16_2 : Int) := of_decide_eq_true (by first | (with_reducible assumption) | assumption)
                          have q158 : x16_2 < (t151.length : Int) := of_decide_eq_true (by first | (with_reducible assumption) | assumption)
                          obtain ⟨ad158, e158, hx158_0⟩ := Kd.at_int (Kd.R_reads' HO_13.out).2.2 x16_2 p158 q158
                          cases e158
                          replace p158 := eq_true p158
                          replace q158 := eq_true q158
                          have p159 : 0 ≤ (x16_2 : Int) := of_decide_eq_true (by first | (with_reducible assumption) | assumption)
                          have q159 : x16_2 < (t151.length : Int) := of_decide_eq_true (by first | (with_reducible assumption) | assumption)
                          obtain ⟨ad159, e159, hx159_0⟩ := Kd.at_int (Kd.R_reads' HO_13.out).2.2 x16_2 p159 q159
                          obtain rfl : ad158 = ad159 := (by injection e159)
                          replace p159 := eq_true p159
                          replace q159 := eq_true q159
                          go_wp2
                          go_ret
                          exact ⟨by first | rfl | (simp [errW_none, errW_some] <;> rfl) | (simp [*, errW_none, errW_some] <;> rfl), by repeat (first | (with_reducible first | exact HB.out | apply below_alloc | apply pw_below_drewN | apply below_drew1) | exact HB.out)⟩
                        · rw [if_neg c39] at H
                          have c39b0 : decide ((t151.length : Int) ≤ (rd t151 x16_2)) = false := decide_eq_false c39
                          clear c39
                          by_cases c40 : 0 ≤ (rd t151 x16_2)
                          · rw [if_pos c40] at H
                            have c40b0 : decide (0 ≤ (rd t151 x16_2)) = true := decide_eq_true c40
                            clear c40
                            by_cases c41 : (rd t151 x16_2) < (x15_2.length : Int)
                            · rw [if_pos c41] at H
                              have c41b0 : decide ((rd t151 x16_2) < (x15_2.length : Int)) = true := decide_eq_true c41
                              clear c41
                              obtain ⟨bq42, hbq42⟩ : ∃ b_ : Bool, b_ = (rdOf false x15_2 (rd t151 x16_2)) := ⟨_, rfl⟩
                              replace H : (if bq42 = true then (some false) else (petrinetlaw52_RandomRanges.l0 k2 a1 t151 (x15_2.set ((rd t151 x16_2) : Int).toNat true) (wrap64 (x16_2 + 1)))) = some r := by rw [← hbq42] at H; exact H
                              have Nbq42 := Aside0.mk hbq42
                              clear hbq42
                              by_cases c43 : bq42 = true
                              · subst c43
                                have H1 : (some false) = some r := by rw [if_pos rfl] at H; exact H
                                clear H
                                have H := H1
                                clear H1
                                obtain rfl := Option.some.inj H
                                have p158 : 0 ≤ (x16_2 : Int) := of_decide_eq_true (by first | (with_reducible assumption) | assumption)
                                have q158 : x16_2 < (t151.length : Int) := of_decide_eq_true (by first | (with_reducible assumption) | assumption)
                                obtain ⟨ad158, e158, hx158_0⟩ := Kd.at_int (Kd.R_reads' HO_13.out).2.2 x16_2 p158 q158
                                cases e158
                                replace p158 := eq_true p158
                                replace q158 := eq_true q158
                                have p159 : 0 ≤ (x16_2 : Int) := of_decide_eq_true (by first | (with_reducible assumption) | assumption)
                                have q159 : x16_2 < (t151.length : Int) := of_decide_eq_true (by first | (with_reducible assumption) | assumption)
                                obtain ⟨ad159, e159, hx159_0⟩ := Kd.at_int (Kd.R_reads' HO_13.out).2.2 x16_2 p159 q159
                                obtain rfl : ad158 = ad159 := (by injection e159)
                                replace p159 := eq_true p159
                                replace q159 := eq_true q159
                                have p160 : 0 ≤ (x16_2 : Int) := of_decide_eq_true (by first | (with_reducible assumption) | assumption)
                                have q160 : x16_2 < (t151.length : Int) := of_decide_eq_true (by first | (with_reducible assumption) | assumption)
                                obtain ⟨ad160, e160, hx160_0⟩ := Kd.at_int (Kd.R_reads' HO_13.out).2.2 x16_2 p160 q160
                                obtain rfl : ad158 = ad160 := (by injection e160)
                                replace p160 := eq_true p160
                                replace q160 := eq_true q160
                                obtain ⟨Ao44, co44, eo44⟩ := Kd.R_slice HO_15.out
                                subst eo44
                                have p161 : 0 ≤ ((rd t151 x16_2) : Int) := of_decide_eq_true (by first | (with_reducible assumption) | assumption)
                                have q161 : (rd t151 x16_2) < (x15_2.length : Int) := of_decide_eq_true (by first | (with_reducible assumption) | assumption)
                                obtain ⟨ad161, e161, hx161_0⟩ := Kd.at_bool (Kd.R_reads' HO_15.out).2.2 (rd t151 x16_2) p161 q161
                                (try rw [← Nbq42.out] at hx161_0)
                                cases e161
                                replace p161 := eq_true p161
                                replace q161 := eq_true q161
                                go_wp2
                                go_ret
                                exact ⟨by first | rfl | (simp [errW_none, errW_some] <;> rfl) | (simp [*, errW_none, errW_some] <;> rfl), by repeat (first | (with_reducible first | exact HB.out | apply below_alloc | apply pw_below_drewN | apply below_drew1) | exact HB.out)⟩
                              · replace c43 := Bool.eq_false_iff.mpr c43
                                subst c43
                                have H1 : (petrinetlaw52_RandomRanges.l0 k2 a1 t151 (x15_2.set ((rd t151 x16_2) : Int).toNat true) (wrap64 (x16_2 + 1))) = some r := by rw [if_neg (show ¬ (false = true) by decide)] at H; exact H
                                clear H
                                have H := H1
                                clear H1
                                obtain ⟨y163, hy163⟩ : ∃ y_ : List Bool, y_ = (x15_2.set ((rd t151 x16_2) : Int).toNat true) := ⟨_, rfl⟩
                                replace H : (petrinetlaw52_RandomRanges.l0 k2 a1 t151 y163 (wrap64 (x16_2 + 1))) = some r := by first | (rw [hy163]; with_reducible exact H) | (have H2_ := (Option.bind_some _ _).symm.trans H; rw [hy163]; with_reducible exact H2_) | (have H2_ := (Option.bind_some _ _).symm.trans H; with_reducible exact H2_) | with_reducible exact H | (rw [hy163]; exact H) | exact H
                                have Ny163 := Aside0.mk hy163
                                clear hy163
                                have H' := Aside0.mk H
                                clear H
                                have p158 : 0 ≤ (x16_2 : Int) := of_decide_eq_true (by first | (with_reducible assumption) | assumption)
                                have q158 : x16_2 < (t151.length : Int) := of_decide_eq_true (by first | (with_reducible assumption) | assumption)
                                obtain ⟨ad158, e158, hx158_0⟩ := Kd.at_int (Kd.R_reads' HO_13.out).2.2 x16_2 p158 q158
                                cases e158
                                replace p158 := eq_true p158
                                replace q158 := eq_true q158
                                have p159 : 0 ≤ (x16_2 : Int) := of_decide_eq_true (by first | (with_reducible assumption) | assumption)
                                have q159 : x16_2 < (t151.length : Int) := of_decide_eq_true (by first | (with_reducible assumption) | assumption)
                                obtain ⟨ad159, e159, hx159_0⟩ := Kd.at_int (Kd.R_reads' HO_13.out).2.2 x16_2 p159 q159
                                obtain rfl : ad158 = ad159 := (by injection e159)
                                replace p159 := eq_true p159
                                replace q159 := eq_true q159
                                have p160 : 0 ≤ (x16_2 : Int) := of_decide_eq_true (by first | (with_reducible assumption) | assumption)
                                have q160 : x16_2 < (t151.length : Int) := of_decide_eq_true (by first | (with_reducible assumption) | assumption)
                                obtain ⟨ad160, e160, hx160_0⟩ := Kd.at_int (Kd.R_reads' HO_13.out).2.2 x16_2 p160 q160
                                obtain rfl : ad158 = ad160 := (by injection e160)
                                replace p160 := eq_true p160
                                replace q160 := eq_true q160
                                obtain ⟨Ao46, co46, eo46⟩ := Kd.R_slice HO_15.out
                                subst eo46
                                have p161 : 0 ≤ ((rd t151 x16_2) : Int) := of_decide_eq_true (by first | (with_reducible assumption) | assumption)
                                have q161 : (rd t151 x16_2) < (x15_2.length : Int) := of_decide_eq_true (by first | (with_reducible assumption) | assumption)
                                obtain ⟨ad161, e161, hx161_0⟩ := Kd.at_bool (Kd.R_reads' HO_15.out).2.2 (rd t151 x16_2) p161 q161
                                (try rw [← Nbq42.out] at hx161_0)
                                cases e161
                                replace p161 := eq_true p161
                                replace q161 := eq_true q161
                                have p162 : 0 ≤ (x16_2 : Int) := of_decide_eq_true (by first | (with_reducible assumption) | assumption)
                                have q162 : x16_2 < (t151.length : Int) := of_decide_eq_true (by first | (with_reducible assumption) | assumption)
                                obtain ⟨ad162, e162, hx162_0⟩ := Kd.at_int (Kd.R_reads' HO_13.out).2.2 x16_2 p162 q162
                                obtain rfl : ad158 = ad162 := (by injection e162)
                                replace p162 := eq_true p162
                                replace q162 := eq_true q162
                                have p45 : 0 ≤ ((rd t151 x16_2) : Int) := of_decide_eq_true (by first | (with_reducible assumption) | assumption)
                                have q45 : ((rd t151 x16_2) : Int) < ((x15_2.length : Int) : Int) := of_decide_eq_true (by first | (with_reducible assumption) | assumption)
                                obtain ⟨go45, co45, eo45, gb45, gl45, cl45, HG45⟩ := Kd.R_form HO_15.out (by omega)
                                (first | cases eo45 | (injection eo45 with ea_ en_ ec_; (first | subst ea_ | (injection ea_ with ea_; subst ea_)); subst ec_; clear en_))
                                have GB45 := Aside0.mk gb45
                                have GG45 := Aside0.mk HG45
                                clear gb45 gl45 HG45
                                (first | simp only [add_plain] at hx161_0 | skip)
                                obtain ⟨hx45_0, hf45_0⟩ := Kd.R_celln false HO_15.out ((rd t151 x16_2) : Int) p45 q45
                                replace p45 := eq_true p45
                                replace q45 := eq_true q45
                                have HP47 := Kd.R_putg HO_15.out ((rd t151 x16_2) : Int) true
                                go_wp2_with (first | ((with_reducible refine gate_store (t := 4) (p := 117) rfl ?_); refine store_event (t := 4) (p := 117) (v := ?vo_w48) (w1 := (wr.setCell ⟨go45, ((rd t151 x16_2) : Int).toNat, none⟩ (.bool true))) ?hg ?ho ?hn ?hr ?_; (case ho => rfl); (case hg => rfl); (case hn => rfl); (case hr => first | (go_simp; done) | (go_simp; rfl)); intro w48 hw; have hg : wr.grownBy w48 (some go45) := (by rw [hw]; exact HP47.2); have hp_ : Kd.R Kd.bool 4 w48 w.heap.size (fun _ => True) (.slice (some ⟨go45, 0, none⟩) x15_2.length co46) y163 := (by rw [hw, Ny163.out]; exact HP47.1); clear HP47; have n0_ := Aside0.mk (Kd.R_over' (v := (.slice (some ⟨go45, 0, none⟩) x15_2.length co46)) (by (with_reducible repeat (first | apply Kd.R_alloc | apply Kd.R_drewN | apply Kd.R_drew)); exact HO_13.out) (Kd.R_typed HO_15.out) (by decide) hg); have n1_ := Aside0.mk (hp_); have n2_ := Aside0.mk ((by rw [hw]; exact below_set (HB.out) GB45.out : Below w.heap.size w w48)); clear HO_13; clear HO_15; clear HB; have HO_13 := n0_; have HO_15 := n1_; have HB := n2_; clear n0_ n1_ n2_; clear hg hw hp_))
                                go_roundg k2
                                case measure => have := HJ9.out; have := HK2.out; omega
                                case rel => exact ⟨(y163), (wrap64 (x16_2 + 1)), (by first | rfl | (simp; done) | (simp [*]; done)), H', ⟨by have := HJ9.out; have := HK2.out; omega⟩, ⟨by (with_reducible repeat (first | apply Kd.R_alloc | apply Kd.R_drewN | apply Kd.R_drew)); exact HO_13.out⟩, ⟨by (with_reducible repeat (first | apply Kd.R_alloc | apply Kd.R_drewN | apply Kd.R_drew)); exact HO_15.out⟩, ⟨by repeat (first | (with_reducible first | exact HB.out | apply below_alloc | apply pw_below_drewN | apply below_drew1) | exact HB.out)⟩⟩
                            · rw [if_neg c41] at H
                              exact absurd H (by simp)
                          · rw [if_neg c40] at H
                            exact absurd H (by simp)
                    · rw [if_neg c37] at H
                      exact absurd H (by simp)
                  · rw [if_neg c36] at H
                    have c36b0 : decide (x16_2 < (t151.length : Int)) = false := decide_eq_false c36
                    clear c36
                    by_cases c49 : a1 < 1
                    · rw [if_pos c49] at H
                      have c49b0 : decide (a1 < 1) = true := decide_eq_true c49
                      clear c49
                      replace H := Option.bind_eq_some_iff.mp H
                      obtain ⟨t164, A500, H⟩ := H
                      replace H : (some t164) = some r := H
                      have A50 := Aside0.mk A500
                      clear A500
                      obtain rfl := Option.some.inj H
                      go_wp2_with (first | (go_at_call 13; (with_reducible refine (petrinetlaw52_alive.calls k2  t164 _ A50.out).mono ?_); rintro e w51 ⟨rfl, hb⟩; have n0_ := Aside0.mk (Kd.R_below (by (with_reducible repeat (first | apply Kd.R_alloc | apply Kd.R_drewN | apply Kd.R_drew)); exact HO_13.out) hb); have n1_ := Aside0.mk (Kd.R_below (by (with_reducible repeat (first | apply Kd.R_alloc | apply Kd.R_drewN | apply Kd.R_drew)); exact HO_15.out) hb); have n2_ := Aside0.mk (below_step (by repeat (first | (with_reducible first | exact HB.out | apply below_alloc | apply pw_below_drewN | apply below_drew1) | exact HB.out)) hb); clear HO_13; clear HO_15; clear HB; have HO_13 := n0_; have HO_15 := n1_; have HB := n2_; clear n0_ n1_ n2_; (try clear hb); (try clear hb2); (try clear hk); (try clear hi)))
                      go_ret
                      exact ⟨by first | rfl | (simp [errW_none, errW_some] <;> rfl) | (simp [*, errW_none, errW_some] <;> rfl), by repeat (first | (with_reducible first | exact HB.out | apply below_alloc | apply pw_below_drewN | apply below_drew1) | exact HB.out)⟩
                    · rw [if_neg c49] at H
                      have c49b0 : decide (a1 < 1) = false := decide_eq_false c49
                      clear c49
                      by_cases c52 : a1 > 64
                      · rw [if_pos c52] at H
                        have c52b0 : decide (64 < a1) = true := decide_eq_true c52
                        clear c52
                        replace H := Option.bind_eq_some_iff.mp H
                        obtain ⟨t165, A530, H⟩ := H
                        replace H : (some t165) = some r := H
                        have A53 := Aside0.mk A530
                        clear A530
                        obtain rfl := Option.some.inj H
                        go_wp2_with (first | (go_at_call 13; (with_reducible refine (petrinetlaw52_alive.calls k2  t165 _ A53.out).mono ?_); rintro e w54 ⟨rfl, hb⟩; have n0_ := Aside0.mk (Kd.R_below (by (with_reducible repeat (first | apply Kd.R_alloc | apply Kd.R_drewN | apply Kd.R_drew)); exact HO_13.out) hb); have n1_ := Aside0.mk (Kd.R_below (by (with_reducible repeat (first | apply Kd.R_alloc | apply Kd.R_drewN | apply Kd.R_drew)); exact HO_15.out) hb); have n2_ := Aside0.mk (below_step (by repeat (first | (with_reducible first | exact HB.out | apply below_alloc | apply pw_below_drewN | apply below_drew1) | exact HB.out)) hb); clear HO_13; clear HO_15; clear HB; have HO_13 := n0_; have HO_15 := n1_; have HB := n2_; clear n0_ n1_ n2_; (try clear hb); (try clear hb2); (try clear hk); (try clear hi)))
                        go_ret
                        exact ⟨by first | rfl | (simp [errW_none, errW_some] <;> rfl) | (simp [*, errW_none, errW_some] <;> rfl), by repeat (first | (with_reducible first | exact HB.out | apply below_alloc | apply pw_below_drewN | apply below_drew1) | exact HB.out)⟩
                      · rw [if_neg c52] at H
                        have c52b0 : decide (64 < a1) = false := decide_eq_false c52
                        clear c52
                        by_cases c55 : (t151.length : Int) = a1
                        · rw [if_pos c55] at H
                          have c55b0 : ((t151.length : Int) == a1) = true := beq_iff_eq.mpr c55
                          have c55b1 : ((t151.length : Int) != a1) = false := bne_eq_false_iff_eq.mpr c55
                          clear c55
                          replace H := Option.bind_eq_some_iff.mp H
                          obtain ⟨t166, A560, H⟩ := H
                          replace H : (some t166) = some r := H
                          have A56 := Aside0.mk A560
                          clear A560
                          obtain rfl := Option.some.inj H
                          go_wp2_with (first | (go_at_call 13; (with_reducible refine (petrinetlaw52_alive.calls k2  t166 _ A56.out).mono ?_); rintro e w57 ⟨rfl, hb⟩; have n0_ := Aside0.mk (Kd.R_below (by (with_reducible repeat (first | apply Kd.R_alloc | apply Kd.R_drewN | apply Kd.R_drew)); exact HO_13.out) hb); have n1_ := Aside0.mk (Kd.R_below (by (with_reducible repeat (first | apply Kd.R_alloc | apply Kd.R_drewN | apply Kd.R_drew)); exact HO_15.out) hb); have n2_ := Aside0.mk (below_step (by repeat (first | (with_reducible first | exact HB.out | apply below_alloc | apply pw_below_drewN | apply below_drew1) | exact HB.out)) hb); clear HO_13; clear HO_15; clear HB; have HO_13 := n0_; have HO_15 := n1_; have HB := n2_; clear n0_ n1_ n2_; (try clear hb); (try clear hb2); (try clear hk); (try clear hi)))
                          go_ret
                          exact ⟨by first | rfl | (simp [errW_none, errW_some] <;> rfl) | (simp [*, errW_none, errW_some] <;> rfl), by repeat (first | (with_reducible first | exact HB.out | apply below_alloc | apply pw_below_drewN | apply below_drew1) | exact HB.out)⟩
                        · rw [if_neg c55] at H
                          have c55b0 : ((t151.length : Int) == a1) = false := beq_eq_false_iff_ne.mpr c55
                          have c55b1 : ((t151.length : Int) != a1) = true := bne_iff_ne.mpr c55
                          obtain rfl := Option.some.inj H
                          go_wp2
                          go_ret
                          exact ⟨by first | rfl | (simp [errW_none, errW_some] <;> rfl) | (simp [*, errW_none, errW_some] <;> rfl), by repeat (first | (with_reducible first | exact HB.out | apply below_alloc | apply pw_below_drewN | apply below_drew1) | exact HB.out)⟩
            · rw [if_neg c31] at H
              exact absurd H (by simp)
          · rw [if_neg c30] at H
            exact absurd H (by simp)

/-- THE ONE PURE STATEMENT of petrinetlaw52_RandomRanges: yours. -/
def petrinetlaw52_RandomRanges.Pure : Prop := ∀ (a0 : Int) (a1 : Int) (l2 : List Int), (Lit.int .u64 a0).wf = true → (Lit.int .i64 a1).wf = true → l2.length ≤ maxLen → l2.length * 8 ≤ 140737488351232 → (∀ x ∈ l2, (Lit.int .i64 x).wf = true) → ∃ k, petrinetlaw52_RandomRanges.f k a0 a1 l2 = some true
theorem petrinetlaw52_RandomRanges.walk (P : petrinetlaw52_RandomRanges.Pure) (a0 : Int) (a1 : Int) (a2 : Option Addr) (len2 cap2 : Nat) (z2 : List Int) (w : World) (w0 : (Lit.int .u64 a0).wf = true) (w1 : (Lit.int .i64 a1).wf = true) (w2 : (a2 = none ∧ len2 = 0 ∧ cap2 = 0 ∧ z2 = []) ∨ ∃ x, a2 = some x ∧ len2 ≤ cap2 ∧ cap2 ≤ maxLen ∧ z2.length = cap2 ∧ (∀ i, i < z2.length → w.cell? (x.add i) = some (.int .i64 (z2.getD i 0))) ∧ ∀ n ∈ z2, (Lit.int .i64 n).wf = true) (y2 : len2 * 8 ≤ 140737488351232) :
    Calls Try.prog 8 #[.int .u64 a0, .int .i64 a1, .slice a2 len2 cap2] w fun e w' => e = .returned (.bool true) ∧ Below w.heap.size w w' := by
  obtain ⟨l2, rfl, hr2, hm2, hw2, hc2⟩ := ReadsInt.ofRowC w2
  obtain ⟨k, h⟩ := P a0 a1 l2 w0 w1 hm2 y2 hw2
  refine (petrinetlaw52_RandomRanges.calls k a0 a1 _ _ l2 true w (Kd.C_of_reads (d := (0 : Int)) (h1 := fun _ => rfl) hr2) hc2 h).mono ?_
  rintro e w' ⟨rfl, hd⟩
  exact ⟨rfl, hd⟩

end Go.Proofs.Ytlckejjmkjgknaa.Hy
