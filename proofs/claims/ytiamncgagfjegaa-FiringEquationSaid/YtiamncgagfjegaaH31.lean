-- Written by hyb.sh (a program of this session, over the kit's printer), for the seat Ytiamncgagfjegaa.
import Derived.Test.YtiamncgagfjegaaH0
import Derived.Test.YtiamncgagfjegaaH22
import Derived.Test.YtiamncgagfjegaaH30
namespace Go.Proofs.Ytiamncgagfjegaa.Hy
open Go.RowKit Go.Proofs.YtiamncgagfjegaaW.PrintWords Go.Proofs.YtiamncgagfjegaaW.PrintLast Go.Proofs.YtiamncgagfjegaaW.PrintMore
attribute [local go_sem] max2_int min2_int max_two min_two max_three min_three max_four min_four   -- for this text's walks alone
set_option linter.unusedVariables false
set_option linter.unusedSimpArgs false

/-! ### net_Incidence: function 33 -/
mutual
def net_Incidence.j0 : Nat → Bool → ByteArray → List (S55) → List (S58) → Option ((List (List Int)))
  | 0, _, _, _, _ => none
  | k + 1, x15, x452000, x452001, x452002 => if x15 = true then (some ([] : List (List Int))) else (if 0 ≤ (x452001.length : Int) then (if ((x452001.length : Int) : Int).toNat ≤ 11728124029610 then ((some (List.replicate ((x452001.length : Int) : Int).toNat [] : List (List Int))).bind fun y453 => (net_Incidence.l0 k y453 (y453.length : Int) 0 x452000 x452001 x452002)) else (none)) else (none))
def net_Incidence.l0 : Nat → List (List Int) → Int → Int → ByteArray → List (S55) → List (S58) → Option ((List (List Int)))
  | 0, _, _, _, _, _, _ => none
  | k + 1, x3, x21, x22, x452000, x452001, x452002 => if x22 < x21 then (net_Incidence.l1 k x3 x22 x21 x22 x452002 (x452002.length : Int) 0 x452000 x452001 x452002) else (some x3)
def net_Incidence.l1 : Nat → List (List Int) → Int → Int → Int → List (S58) → Int → Int → ByteArray → List (S55) → List (S58) → Option ((List (List Int)))
  | 0, _, _, _, _, _, _, _, _, _, _ => none
  | k + 1, x3, x4, x21, x22, x26, x27, x28, x452000, x452001, x452002 => if x28 < x27 then (if 0 ≤ x28 then (if x28 < (x26.length : Int) then (if 0 ≤ x4 then (if x4 < (x3.length : Int) then ((net_weight.f k ((rd_T58 x26 x28).f2) x4).bind fun t459 => ((net_weight.f k ((rd_T58 x26 x28).f1) x4).bind fun t460 => (if (rd_L6 x3 x4).length < 17592186044416 then (net_Incidence.l1 k (x3.set (x4 : Int).toNat ((rd_L6 x3 x4) ++ [wrap64 (t459 - t460)])) x4 x21 x22 x26 x27 (wrap64 (x28 + 1)) x452000 x452001 x452002) else (none)))) else (none)) else (none)) else (none)) else (none)) else (net_Incidence.l0 k x3 x21 (wrap64 (x22 + 1)) x452000 x452001 x452002)
end
def net_Incidence.f (k : Nat) (a0_0 : ByteArray) (l0_1 : List (S55)) (l0_2 : List (S58)) : Option ((List (List Int))) := (net_valid.f a0_0 l0_1 l0_2).bind fun t452 => (if t452 = true then (net_Incidence.j0 k ((l0_2.length : Int) == 0) a0_0 l0_1 l0_2) else (net_Incidence.j0 k true a0_0 l0_1 l0_2))
theorem net_Incidence.mono_l : ∀ k, (∀ y0 y1 y2 y3, LeO (net_Incidence.j0 k y0 y1 y2 y3) (net_Incidence.j0 (k + 1) y0 y1 y2 y3)) ∧ (∀ y0 y1 y2 y3 y4 y5, LeO (net_Incidence.l0 k y0 y1 y2 y3 y4 y5) (net_Incidence.l0 (k + 1) y0 y1 y2 y3 y4 y5)) ∧ (∀ y0 y1 y2 y3 y4 y5 y6 y7 y8 y9, LeO (net_Incidence.l1 k y0 y1 y2 y3 y4 y5 y6 y7 y8 y9) (net_Incidence.l1 (k + 1) y0 y1 y2 y3 y4 y5 y6 y7 y8 y9))
  | 0 => ⟨fun _ _ _ _ r h => by simp [net_Incidence.j0] at h, fun _ _ _ _ _ _ r h => by simp [net_Incidence.l0] at h, fun _ _ _ _ _ _ _ _ _ _ r h => by simp [net_Incidence.l1] at h⟩
  | k + 1 => by
    obtain ⟨ih0, ih1, ih2⟩ := net_Incidence.mono_l k
    refine ⟨?_, ?_, ?_⟩
    · intro y0 y1 y2 y3
      unfold net_Incidence.j0
      repeat' first
      | (with_reducible exact ih0 _ _ _ _)
      | (with_reducible exact ih1 _ _ _ _ _ _)
      | (with_reducible exact ih2 _ _ _ _ _ _ _ _ _ _)
      | (with_reducible exact net_weight.mono _ _ _)
      | (with_reducible exact LeO.refl _)
      | (with_reducible exact LeO.none _)
      | (with_reducible refine LeO.ite ?_ ?_)
      | (with_reducible refine LeO.bind ?_ (fun _ => ?_))
      | exact ih0 _ _ _ _
      | exact ih1 _ _ _ _ _ _
      | exact ih2 _ _ _ _ _ _ _ _ _ _
      | exact net_weight.mono _ _ _
      | exact LeO.none _
      | refine LeO.ite ?_ ?_
      | refine LeO.bind ?_ (fun _ => ?_)
    · intro y0 y1 y2 y3 y4 y5
      unfold net_Incidence.l0
      repeat' first
      | (with_reducible exact ih0 _ _ _ _)
      | (with_reducible exact ih1 _ _ _ _ _ _)
      | (with_reducible exact ih2 _ _ _ _ _ _ _ _ _ _)
      | (with_reducible exact net_weight.mono _ _ _)
      | (with_reducible exact LeO.refl _)
      | (with_reducible exact LeO.none _)
      | (with_reducible refine LeO.ite ?_ ?_)
      | (with_reducible refine LeO.bind ?_ (fun _ => ?_))
      | exact ih0 _ _ _ _
      | exact ih1 _ _ _ _ _ _
      | exact ih2 _ _ _ _ _ _ _ _ _ _
      | exact net_weight.mono _ _ _
      | exact LeO.none _
      | refine LeO.ite ?_ ?_
      | refine LeO.bind ?_ (fun _ => ?_)
    · intro y0 y1 y2 y3 y4 y5 y6 y7 y8 y9
      unfold net_Incidence.l1
      repeat' first
      | (with_reducible exact ih0 _ _ _ _)
      | (with_reducible exact ih1 _ _ _ _ _ _)
      | (with_reducible exact ih2 _ _ _ _ _ _ _ _ _ _)
      | (with_reducible exact net_weight.mono _ _ _)
      | (with_reducible exact LeO.refl _)
      | (with_reducible exact LeO.none _)
      | (with_reducible refine LeO.ite ?_ ?_)
      | (with_reducible refine LeO.bind ?_ (fun _ => ?_))
      | exact ih0 _ _ _ _
      | exact ih1 _ _ _ _ _ _
      | exact ih2 _ _ _ _ _ _ _ _ _ _
      | exact net_weight.mono _ _ _
      | exact LeO.none _
      | refine LeO.ite ?_ ?_
      | refine LeO.bind ?_ (fun _ => ?_)
theorem net_Incidence.mono : ∀ a0 a1 a2 k, LeO (net_Incidence.f k a0 a1 a2) (net_Incidence.f (k + 1) a0 a1 a2) := by
  intro a0 a1 a2 k
  obtain ⟨ih0, ih1, ih2⟩ := net_Incidence.mono_l k
  unfold net_Incidence.f
  repeat' first
      | (with_reducible exact ih0 _ _ _ _)
      | (with_reducible exact ih1 _ _ _ _ _ _)
      | (with_reducible exact ih2 _ _ _ _ _ _ _ _ _ _)
      | (with_reducible exact net_weight.mono _ _ _)
      | (with_reducible exact LeO.refl _)
      | (with_reducible exact LeO.none _)
      | (with_reducible refine LeO.ite ?_ ?_)
      | (with_reducible refine LeO.bind ?_ (fun _ => ?_))
      | exact ih0 _ _ _ _
      | exact ih1 _ _ _ _ _ _
      | exact ih2 _ _ _ _ _ _ _ _ _ _
      | exact net_weight.mono _ _ _
      | exact LeO.none _
      | refine LeO.ite ?_ ?_
      | refine LeO.bind ?_ (fun _ => ?_)
def net_Incidence.T10 : Bool × List (List Nat × List Nat) := (true, [([], []), ([], []), ([], []), ([], []), ([2, 3], [2, 3]), ([4], [4]), ([], []), ([6], [6]), ([], []), ([7, 8], [7, 8]), ([], []), ([10], [10]), ([], []), ([11, 12, 9], [11, 12]), ([9, 13], [9, 13]), ([14], [14]), ([5, 15, 13], [5, 15]), ([0, 1, 0, 1, 2, 3, 4, 5, 6, 7, 8, 9, 10, 11, 12, 13, 14, 15, 16], [0, 1]), ([17, 16, 16, 0, 1, 2, 3, 4, 5, 6, 7, 8, 9, 10, 11, 12, 13, 14, 15, 16], [16, 17])])
def net_Incidence.B10 : List Nat := [0, 0, 0, 0, 12, 28, 0, 64, 0, 448, 0, 1024, 0, 8128, 16320, 32704, 65532, 131071, 262143]
theorem net_Incidence.tab10 : rtab .any (opsOf Try.f33 10) = net_Incidence.T10 := by kernel_rfl
theorem net_Incidence.bits10 : waitsOk net_Incidence.T10.2 net_Incidence.B10 = true := by kernel_rfl
set_option maxHeartbeats 8000000 in
set_option maxRecDepth 100000 in
theorem net_Incidence.calls (k : Nat) (a0_0 : ByteArray) (A0_1 : Option Addr) (c0_1 : Nat) (l0_1 : List (S55)) (A0_2 : Option Addr) (c0_2 : Nat) (l0_2 : List (S58)) (r : List (List Int)) (w : World) (hr0_1 : Kd.C k55 w A0_1 l0_1.length l0_1) (hc0_1 : l0_1.length ≤ c0_1) (hr0_2 : Kd.C k58 w A0_2 l0_2.length l0_2) (hc0_2 : l0_2.length ≤ c0_2) (h : net_Incidence.f k a0_0 l0_1 l0_2 = some r) :
    Calls Try.prog 33 #[.agg #[.string a0_0, .slice A0_1 l0_1.length c0_1, .slice A0_2 l0_2.length c0_2]] w fun e w' => ∃ v0_ : Value, e = .returned (v0_) ∧ Kd.S (Kd.slice 2 (Kd.int .i64)) 44 w' w.heap.size (fun _ => True) v0_ r ∧ Below w.heap.size w w' := by
  have hu25 := Try.underlying25
  have hu58 := Try.underlying58
  have HR0_1 := Aside0.mk hr0_1
  have HC0_1 := Aside0.mk hc0_1
  clear hr0_1 hc0_1
  have HR0_2 := Aside0.mk hr0_2
  have HC0_2 := Aside0.mk hc0_2
  clear hr0_2 hc0_2
  have HB := Aside0.mk (Below.refl w.heap.size w)
  have H : ((net_valid.f a0_0 l0_1 l0_2).bind fun t452 => (if t452 = true then (net_Incidence.j0 k ((l0_2.length : Int) == 0) a0_0 l0_1 l0_2) else (net_Incidence.j0 k true a0_0 l0_1 l0_2))) = some r := h
  clear h
  have HC2 := Aside0.mk H
  clear H
  go_enter Try.func33, Try.ntmps33
  go_upto_region 1 with (first | ((with_reducible refine gate_dst (N := 1) rfl ?_); (try (refine gate_guard (by rfl) ?_; dsimp only)); refine box_event ?hg (N := 1) ?hd (cs := #[.string a0_0, .slice A0_1 l0_1.length c0_1, .slice A0_2 l0_2.length c0_2]) (t := 25) ?hr ?_; (case hd => rfl); (case hg => rfl); (case hr => first | (go_simp; done) | (go_simp; rfl)); intro gb451 hg w3 hbox hb; have n0_ := Aside0.mk (below_step (by repeat (first | (with_reducible first | exact HB.out | apply below_alloc | apply pw_below_drewN | apply below_drew1) | exact HB.out)) hb); have n1_ := Aside0.mk (hbox); have n2_ := Aside0.mk ((by rw [hg]; exact (below_size (by repeat (first | (with_reducible first | exact HB.out | apply below_alloc | apply pw_below_drewN | apply below_drew1) | exact HB.out))) : w.heap.size ≤ gb451)); have n3_ := Aside0.mk ((by rw [hg]; exact (below_size (by repeat (first | (with_reducible first | exact HB.out | apply below_alloc | apply pw_below_drewN | apply below_drew1) | exact HB.out))) : w.heap.size ≤ gb451)); clear HB; have HB := n0_; have BK451 := n1_; have GW451 := n2_; have GE451 := n3_; clear n0_ n1_ n2_ n3_; clear hb hbox hg))
  (try simp only [Act.put, List.setIfInBounds_toArray, List.set_cons_zero, List.set_cons_succ])
  go_cut [15] (fun v15 wc => ∃ (kq : Nat) (x15_1 : Bool), v15 = .bool x15_1 ∧ Aside0 (net_Incidence.j0 kq x15_1 a0_0 l0_1 l0_2 = some r) ∧ Aside0 (kq ≤ k) ∧ Aside0 (wc.heap[gb451]? = some (.cells #[.string a0_0, (.slice A0_1 l0_1.length c0_1), (.slice A0_2 l0_2.length c0_2)] 25 (0, 0))) ∧ Aside0 (Below w.heap.size w wc))
  case first =>
    have H := HC2.out
    clear HC2
    replace H := Option.bind_eq_some_iff.mp H
    obtain ⟨t452, A40, H⟩ := H
    replace H : (if t452 = true then (net_Incidence.j0 k ((l0_2.length : Int) == 0) a0_0 l0_1 l0_2) else (net_Incidence.j0 k true a0_0 l0_1 l0_2)) = some r := H
    have A4 := Aside0.mk A40
    clear A40
    by_cases c5 : t452 = true
    · subst c5
      have H1 : (net_Incidence.j0 k ((l0_2.length : Int) == 0) a0_0 l0_1 l0_2) = some r := by rw [if_pos rfl] at H; exact H
      clear H
      have H := H1
      clear H1
      have H' := Aside0.mk H
      clear H
      have hcz6_0 : w3.cell? ⟨gb451, 0, none⟩ = some (.string a0_0) := (blk_cell BK451.out 0).trans rfl
      have hcz6_1 : w3.cell? ⟨gb451, 1, none⟩ = some (.slice A0_1 l0_1.length c0_1) := (blk_cell BK451.out 1).trans rfl
      have hcz6_2 : w3.cell? ⟨gb451, 2, none⟩ = some (.slice A0_2 l0_2.length c0_2) := (blk_cell BK451.out 2).trans rfl
      have hfz6_0 := blk_frozen BK451.out 0
      have hfz6_1 := blk_frozen BK451.out 1
      have hfz6_2 := blk_frozen BK451.out 2
      go_wp2_with (first | ((with_reducible refine gate_callee (f := 48) rfl ?_); refine goesL_ (some 8) rfl rfl Try.func48 (by kernel_rfl) rfl #[.agg #[.string a0_0, .slice A0_1 l0_1.length c0_1, .slice A0_2 l0_2.length c0_2]] rfl (by (try simp only [List.map_toArray, List.map_cons, List.map_nil]); first | done | rfl | (simp only [List.length_drop, List.length_take]; rfl)) ?_; (with_reducible refine (net_valid.calls a0_0 _ _ l0_1 _ _ l0_2 true _ ?side1 ?side2 ?side3 ?side4 A4.out).mono ?_); (case side1 => repeat (first | exact (Kd.C_below HR0_1.out HB.out) | (with_reducible refine Kd.C_alloc ?_ _) | (with_reducible refine Kd.C_drewN ?_ _) | (with_reducible refine Kd.C_drew ?_))); (case side2 => exact HC0_1.out); (case side3 => repeat (first | exact (Kd.C_below HR0_2.out HB.out) | (with_reducible refine Kd.C_alloc ?_ _) | (with_reducible refine Kd.C_drewN ?_ _) | (with_reducible refine Kd.C_drew ?_))); (case side4 => exact HC0_2.out); rintro e w7 ⟨rfl, hb⟩; refine ⟨_, rfl, ?_⟩; have n0_ := Aside0.mk (blk_below (g := gb451) (o := .cells #[.string a0_0, .slice A0_1 l0_1.length c0_1, .slice A0_2 l0_2.length c0_2] 25 (0, 0)) (by (with_reducible repeat (first | refine blk_drewN ?_ _ | refine blk_drew ?_ | refine blk_alloc ?_ _)); exact BK451.out) hb); have n1_ := Aside0.mk (below_step (by repeat (first | (with_reducible first | exact HB.out | apply below_alloc | apply pw_below_drewN | apply below_drew1 | refine below_set ?_ GE451.out) | exact HB.out)) hb); clear BK451; clear HB; have BK451 := n0_; have HB := n1_; clear n0_ n1_; (try clear hb); (try clear hb2); (try clear hk); (try clear hi); have hcz8_0 : w7.cell? ⟨gb451, 0, none⟩ = some (.string a0_0) := (blk_cell BK451.out 0).trans rfl; have hcz8_1 : w7.cell? ⟨gb451, 1, none⟩ = some (.slice A0_1 l0_1.length c0_1) := (blk_cell BK451.out 1).trans rfl; have hcz8_2 : w7.cell? ⟨gb451, 2, none⟩ = some (.slice A0_2 l0_2.length c0_2) := (blk_cell BK451.out 2).trans rfl; have hfz8_0 := blk_frozen BK451.out 0; have hfz8_1 := blk_frozen BK451.out 1; have hfz8_2 := blk_frozen BK451.out 2))
      go_meet
      case rel => exact ⟨_, (((l0_2.length : Int) == 0)), (by first | rfl | (simp; done) | (simp [*]; done)), H', ⟨by first | omega | exact Nat.le_refl _⟩, ⟨by (with_reducible repeat (first | refine blk_drewN ?_ _ | refine blk_drew ?_ | refine blk_alloc ?_ _)); exact BK451.out⟩, ⟨by repeat (first | (with_reducible first | exact HB.out | apply below_alloc | apply pw_below_drewN | apply below_drew1 | refine below_set ?_ GE451.out) | exact HB.out)⟩⟩
    · replace c5 := Bool.eq_false_iff.mpr c5
      subst c5
      have H1 : (net_Incidence.j0 k true a0_0 l0_1 l0_2) = some r := by rw [if_neg (show ¬ (false = true) by decide)] at H; exact H
      clear H
      have H := H1
      clear H1
      have H' := Aside0.mk H
      clear H
      have hcz9_0 : w3.cell? ⟨gb451, 0, none⟩ = some (.string a0_0) := (blk_cell BK451.out 0).trans rfl
      have hcz9_1 : w3.cell? ⟨gb451, 1, none⟩ = some (.slice A0_1 l0_1.length c0_1) := (blk_cell BK451.out 1).trans rfl
      have hcz9_2 : w3.cell? ⟨gb451, 2, none⟩ = some (.slice A0_2 l0_2.length c0_2) := (blk_cell BK451.out 2).trans rfl
      have hfz9_0 := blk_frozen BK451.out 0
      have hfz9_1 := blk_frozen BK451.out 1
      have hfz9_2 := blk_frozen BK451.out 2
      go_wp2_with (first | ((with_reducible refine gate_callee (f := 48) rfl ?_); refine goesL_ (some 8) rfl rfl Try.func48 (by kernel_rfl) rfl #[.agg #[.string a0_0, .slice A0_1 l0_1.length c0_1, .slice A0_2 l0_2.length c0_2]] rfl (by (try simp only [List.map_toArray, List.map_cons, List.map_nil]); first | done | rfl | (simp only [List.length_drop, List.length_take]; rfl)) ?_; (with_reducible refine (net_valid.calls a0_0 _ _ l0_1 _ _ l0_2 false _ ?side1 ?side2 ?side3 ?side4 A4.out).mono ?_); (case side1 => repeat (first | exact (Kd.C_below HR0_1.out HB.out) | (with_reducible refine Kd.C_alloc ?_ _) | (with_reducible refine Kd.C_drewN ?_ _) | (with_reducible refine Kd.C_drew ?_))); (case side2 => exact HC0_1.out); (case side3 => repeat (first | exact (Kd.C_below HR0_2.out HB.out) | (with_reducible refine Kd.C_alloc ?_ _) | (with_reducible refine Kd.C_drewN ?_ _) | (with_reducible refine Kd.C_drew ?_))); (case side4 => exact HC0_2.out); rintro e w10 ⟨rfl, hb⟩; refine ⟨_, rfl, ?_⟩; have n0_ := Aside0.mk (blk_below (g := gb451) (o := .cells #[.string a0_0, .slice A0_1 l0_1.length c0_1, .slice A0_2 l0_2.length c0_2] 25 (0, 0)) (by (with_reducible repeat (first | refine blk_drewN ?_ _ | refine blk_drew ?_ | refine blk_alloc ?_ _)); exact BK451.out) hb); have n1_ := Aside0.mk (below_step (by repeat (first | (with_reducible first | exact HB.out | apply below_alloc | apply pw_below_drewN | apply below_drew1 | refine below_set ?_ GE451.out) | exact HB.out)) hb); clear BK451; clear HB; have BK451 := n0_; have HB := n1_; clear n0_ n1_; (try clear hb); (try clear hb2); (try clear hk); (try clear hi)))
      go_meet
      case rel => exact ⟨_, (true), (by first | rfl | (simp; done) | (simp [*]; done)), H', ⟨by first | omega | exact Nat.le_refl _⟩, ⟨by (with_reducible repeat (first | refine blk_drewN ?_ _ | refine blk_drew ?_ | refine blk_alloc ?_ _)); exact BK451.out⟩, ⟨by repeat (first | (with_reducible first | exact HB.out | apply below_alloc | apply pw_below_drewN | apply below_drew1 | refine below_set ?_ GE451.out) | exact HB.out)⟩⟩
  case rest =>
    clear HC2
    try clear p2
    try clear c3
    try clear c4
    try clear c5
    try clear hcz6_0
    try clear hcz6_1
    try clear hcz6_2
    try clear hcz8_0
    try clear hcz8_1
    try clear hcz8_2
    try clear hcz9_0
    try clear hcz9_1
    try clear hcz9_2
    try clear hfz6_0
    try clear hfz6_1
    try clear hfz6_2
    try clear hfz8_0
    try clear hfz8_1
    try clear hfz8_2
    try clear hfz9_0
    try clear hfz9_1
    try clear hfz9_2
    obtain ⟨kq, x15_1, rfl, HA, HJ1, BK451, HB⟩ := hcut
    cases kq with
    | zero => exact absurd HA.out (by simp [net_Incidence.j0])
    | succ kj1 =>
      have H := HA.out
      clear HA
      simp only [net_Incidence.j0] at H
      by_cases c11 : x15_1 = true
      · subst c11
        have H1 : (some ([] : List (List Int))) = some r := by rw [if_pos rfl] at H; exact H
        clear H
        have H := H1
        clear H1
        obtain rfl := Option.some.inj H
        go_wp2
        go_ret
        exact ⟨_, by first | rfl | (simp [errW_none, errW_some] <;> rfl) | (simp [*, errW_none, errW_some] <;> rfl), by first | exact Kd.S_nil _ _ _ _ _ | exact Kd.N_nil _ _ _ _ _ | exact Kd.V_nil _ _ _ _ _ | exact Kd.Q_nil _ _ _ _ _ | exact Kd.R_nil _ _ _ _ _, by repeat (first | (with_reducible first | exact HB.out | apply below_alloc | apply pw_below_drewN | apply below_drew1 | refine below_set ?_ GE451.out) | exact HB.out)⟩
      · replace c11 := Bool.eq_false_iff.mpr c11
        subst c11
        have H1 : (if 0 ≤ (l0_1.length : Int) then (if ((l0_1.length : Int) : Int).toNat ≤ 11728124029610 then ((some (List.replicate ((l0_1.length : Int) : Int).toNat [] : List (List Int))).bind fun y453 => (net_Incidence.l0 kj1 y453 (y453.length : Int) 0 a0_0 l0_1 l0_2)) else (none)) else (none)) = some r := by rw [if_neg (show ¬ (false = true) by decide)] at H; exact H
        clear H
        have H := H1
        clear H1
        by_cases c12 : 0 ≤ (l0_1.length : Int)
        · rw [if_pos c12] at H
          have c12b0 := eq_true c12
          have c12b1 : decide (0 ≤ (l0_1.length : Int)) = true := decide_eq_true c12
          clear c12
          by_cases c13 : ((l0_1.length : Int) : Int).toNat ≤ 11728124029610
          · rw [if_pos c13] at H
            have c13b0 := eq_true c13
            have c13b1 : decide (((l0_1.length : Int) : Int).toNat ≤ 11728124029610) = true := decide_eq_true c13
            clear c13
            obtain ⟨y453, hy453⟩ : ∃ y_ : List (List Int), y_ = (List.replicate ((l0_1.length : Int) : Int).toNat []) := ⟨_, rfl⟩
            replace H : (net_Incidence.l0 kj1 y453 (y453.length : Int) 0 a0_0 l0_1 l0_2) = some r := by first | (rw [hy453]; with_reducible exact H) | (have H2_ := (Option.bind_some _ _).symm.trans H; rw [hy453]; with_reducible exact H2_) | (have H2_ := (Option.bind_some _ _).symm.trans H; with_reducible exact H2_) | with_reducible exact H | (rw [hy453]; exact H) | exact H
            have Ny453 := Aside0.mk hy453
            clear hy453
            have H' := Aside0.mk H
            clear H
            have hcz14_0 : wc.cell? ⟨gb451, 0, none⟩ = some (.string a0_0) := (blk_cell BK451.out 0).trans rfl
            have hcz14_1 : wc.cell? ⟨gb451, 1, none⟩ = some (.slice A0_1 l0_1.length c0_1) := (blk_cell BK451.out 1).trans rfl
            have hcz14_2 : wc.cell? ⟨gb451, 2, none⟩ = some (.slice A0_2 l0_2.length c0_2) := (blk_cell BK451.out 2).trans rfl
            have hfz14_0 := blk_frozen BK451.out 0
            have hfz14_1 := blk_frozen BK451.out 1
            have hfz14_2 := blk_frozen BK451.out 2
            go_wp2_with (first | ((with_reducible refine gate_dst (N := 19) rfl ?_); (try (refine gate_guard (by rfl) ?_; dsimp only)); refine Kd.S_make (Kd.slice 2 (Kd.int .i64)) _ 44 rfl (N := 19) rfl 52 _ _ rfl (l0_1.length : Int) rfl rfl Try.underlying52 (.slice none 0 0) 24 info44 rfl (by decide) (by omega) [] (ok := fun _ => True) (okp := fun _ => True) ⟨_, rfl, Kd.R_nil _ _ _ _ _⟩ (fun _ hk => hk) trivial (of_decide_eq_true (by first | (with_reducible assumption) | assumption)) (Nat.le_trans (Nat.mul_le_mul_right _ (of_decide_eq_true (by first | (with_reducible assumption) | assumption) : (l0_1.length : Int).toNat ≤ 11728124029610)) (by omega)) (Below.refl _ _) (Nat.le_refl _) ?_; intro v454 w15 ho16 hb hg_ hnew_; clear hg_ hnew_; (first | rw [← Ny453.out] at ho16 | (simp only [Int.reduceToNat] at ho16; rw [← Ny453.out] at ho16)); have n0_ := Aside0.mk (Kd.S_lower ho16 (below_size (by repeat (first | (with_reducible first | exact HB.out | apply below_alloc | apply pw_below_drewN | apply below_drew1 | refine below_set ?_ GE451.out) | exact HB.out)))); have n1_ := Aside0.mk (blk_below (g := gb451) (o := .cells #[.string a0_0, .slice A0_1 l0_1.length c0_1, .slice A0_2 l0_2.length c0_2] 25 (0, 0)) (by (with_reducible repeat (first | refine blk_drewN ?_ _ | refine blk_drew ?_ | refine blk_alloc ?_ _)); exact BK451.out) hb); have n2_ := Aside0.mk (below_step (by repeat (first | (with_reducible first | exact HB.out | apply below_alloc | apply pw_below_drewN | apply below_drew1 | refine below_set ?_ GE451.out) | exact HB.out)) hb); clear BK451; clear HB; have HO455 := n0_; have BK451 := n1_; have HB := n2_; clear n0_ n1_ n2_; clear hb ho16; obtain ⟨Ao17, co17, eo17⟩ := Kd.S_slice HO455.out; subst eo17))
            go_loopg [22] kj1 (fun kq v22 w' => ∃ (x3_2 : List (List Int)) (x22_2 : Int), v22 = .int .i64 x22_2 ∧ Aside0 (net_Incidence.l0 kq x3_2 (y453.length : Int) x22_2 a0_0 l0_1 l0_2 = some r) ∧ Aside0 (kq ≤ kj1) ∧ Aside0 (Kd.S (Kd.slice 2 (Kd.int .i64)) 44 w' w.heap.size (fun _ => True) (.slice Ao17 y453.length co17) x3_2) ∧ Aside0 (w'.heap[gb451]? = some (.cells #[.string a0_0, (.slice A0_1 l0_1.length c0_1), (.slice A0_2 l0_2.length c0_2)] 25 (0, 0))) ∧ Aside0 (Below w.heap.size w w'))
            case atStart => exact ⟨(y453), (0), (by first | rfl | (simp; done) | (simp [*]; done)), H', ⟨Nat.le_refl _⟩, ⟨by (with_reducible repeat (first | apply Kd.S_alloc | apply Kd.S_drewN | apply Kd.S_drew)); exact HO455.out⟩, ⟨by (with_reducible repeat (first | refine blk_drewN ?_ _ | refine blk_drew ?_ | refine blk_alloc ?_ _)); exact BK451.out⟩, ⟨by repeat (first | (with_reducible first | exact HB.out | apply below_alloc | apply pw_below_drewN | apply below_drew1 | refine below_set ?_ GE451.out) | exact HB.out)⟩⟩
            case round =>
              clear H'
              try clear c1
              try clear p2
              try clear c3
              try clear c4
              try clear c5
              try clear c11
              try clear c12
              try clear c12b0
              try clear c12b1
              try clear c13
              try clear c13b0
              try clear c13b1
              try clear hcz14_0
              try clear hcz14_1
              try clear hcz14_2
              try clear hcz6_0
              try clear hcz6_1
              try clear hcz6_2
              try clear hcz8_0
              try clear hcz8_1
              try clear hcz8_2
              try clear hcz9_0
              try clear hcz9_1
              try clear hcz9_2
              try clear hfz14_0
              try clear hfz14_1
              try clear hfz14_2
              try clear hfz6_0
              try clear hfz6_1
              try clear hfz6_2
              try clear hfz8_0
              try clear hfz8_1
              try clear hfz8_2
              try clear hfz9_0
              try clear hfz9_1
              try clear hfz9_2
              try clear p2
              obtain ⟨x3_2, x22_2, rfl, HA, HK2, HO_3, BK451, HB⟩ := hrel
              have hl3_2 := (Kd.S_reads' HO_3.out).1
              rw [hl3_2] at HO_3
              (try simp only [hl3_2])
              (try simp only [hl3_2] at BK451)
              cases gk with
              | zero => exact absurd HA.out (by simp [net_Incidence.l0])
              | succ k2 =>
                have H := HA.out
                clear HA
                simp only [net_Incidence.l0] at H
                by_cases c18 : x22_2 < (y453.length : Int)
                · rw [if_pos c18] at H
                  have c18b0 : decide (x22_2 < (y453.length : Int)) = true := decide_eq_true c18
                  (try simp only [hl3_2] at c18b0)
                  clear c18
                  have H' := Aside0.mk H
                  clear H
                  have hcz19_0 : wr.cell? ⟨gb451, 0, none⟩ = some (.string a0_0) := (blk_cell BK451.out 0).trans rfl
                  have hcz19_1 : wr.cell? ⟨gb451, 1, none⟩ = some (.slice A0_1 l0_1.length c0_1) := (blk_cell BK451.out 1).trans rfl
                  have hcz19_2 : wr.cell? ⟨gb451, 2, none⟩ = some (.slice A0_2 l0_2.length c0_2) := (blk_cell BK451.out 2).trans rfl
                  have hfz19_0 := blk_frozen BK451.out 0
                  have hfz19_1 := blk_frozen BK451.out 1
                  have hfz19_2 := blk_frozen BK451.out 2
                  go_wp2
                  go_loopg [28] k2 (fun kq v28 w' => ∃ (x3_3 : List (List Int)) (x28_3 : Int), v28 = .int .i64 x28_3 ∧ Aside0 (net_Incidence.l1 kq x3_3 x22_2 (y453.length : Int) x22_2 l0_2 (l0_2.length : Int) x28_3 a0_0 l0_1 l0_2 = some r) ∧ Aside0 (kq ≤ k2) ∧ Aside0 (Kd.S (Kd.slice 2 (Kd.int .i64)) 44 w' w.heap.size (fun _ => True) (.slice Ao17 x3_2.length co17) x3_3) ∧ Aside0 (w'.heap[gb451]? = some (.cells #[.string a0_0, (.slice A0_1 l0_1.length c0_1), (.slice A0_2 l0_2.length c0_2)] 25 (0, 0))) ∧ Aside0 (Below w.heap.size w w'))
                  case atStart => exact ⟨(x3_2), (0), (by first | rfl | (simp; done) | (simp [*]; done)), H', ⟨Nat.le_refl _⟩, ⟨by (try simp only [hl3_2]); (with_reducible repeat (first | apply Kd.S_alloc | apply Kd.S_drewN | apply Kd.S_drew)); exact HO_3.out⟩, ⟨by (try simp only [hl3_2]); (with_reducible repeat (first | refine blk_drewN ?_ _ | refine blk_drew ?_ | refine blk_alloc ?_ _)); exact BK451.out⟩, ⟨by repeat (first | (with_reducible first | exact HB.out | apply below_alloc | apply pw_below_drewN | apply below_drew1 | refine below_set ?_ GE451.out) | exact HB.out)⟩⟩
                  case round =>
                    clear H'
                    try clear c1
                    try clear p2
                    try clear c3
                    try clear c4
                    try clear c5
                    try clear c11
                    try clear c12
                    try clear c12b0
                    try clear c12b1
                    try clear c13
                    try clear c13b0
                    try clear c13b1
                    try clear c18
                    try clear c18b0
                    try clear hcz14_0
                    try clear hcz14_1
                    try clear hcz14_2
                    try clear hcz19_0
                    try clear hcz19_1
                    try clear hcz19_2
                    try clear hcz6_0
                    try clear hcz6_1
                    try clear hcz6_2
                    try clear hcz8_0
                    try clear hcz8_1
                    try clear hcz8_2
                    try clear hcz9_0
                    try clear hcz9_1
                    try clear hcz9_2
                    try clear hfz14_0
                    try clear hfz14_1
                    try clear hfz14_2
                    try clear hfz19_0
                    try clear hfz19_1
                    try clear hfz19_2
                    try clear hfz6_0
                    try clear hfz6_1
                    try clear hfz6_2
                    try clear hfz8_0
                    try clear hfz8_1
                    try clear hfz8_2
                    try clear hfz9_0
                    try clear hfz9_1
                    try clear hfz9_2
                    try clear p2
                    obtain ⟨x3_3, x28_3, rfl, HA, HK3, HO_3, BK451, HB⟩ := hrel
                    have hl3_3 := (Kd.S_reads' HO_3.out).1
                    rw [hl3_3] at HO_3
                    (try simp only [hl3_3])
                    (try simp only [hl3_3] at BK451)
                    cases gk with
                    | zero => exact absurd HA.out (by simp [net_Incidence.l1])
                    | succ k3 =>
                      have H := HA.out
                      clear HA
                      simp only [net_Incidence.l1] at H
                      by_cases c20 : x28_3 < (l0_2.length : Int)
                      · rw [if_pos c20] at H
                        have c20b0 : decide (x28_3 < (l0_2.length : Int)) = true := decide_eq_true c20
                        clear c20
                        by_cases c21 : 0 ≤ x28_3
                        · rw [if_pos c21] at H
                          have c21b0 : decide (0 ≤ x28_3) = true := decide_eq_true c21
                          clear c21
                          by_cases c22 : x28_3 < (l0_2.length : Int)
                          · rw [if_pos c22] at H
                            have c22b0 : decide (x28_3 < (l0_2.length : Int)) = true := decide_eq_true c22
                            clear c22
                            by_cases c23 : 0 ≤ x22_2
                            · rw [if_pos c23] at H
                              have c23b0 : decide (0 ≤ x22_2) = true := decide_eq_true c23
                              clear c23
                              by_cases c24 : x22_2 < (x3_3.length : Int)
                              · rw [if_pos c24] at H
                                have c24b0 : decide (x22_2 < (x3_3.length : Int)) = true := decide_eq_true c24
                                clear c24
                                replace H := Option.bind_eq_some_iff.mp H
                                obtain ⟨t459, A250, H⟩ := H
                                replace H : ((net_weight.f k3 ((rd_T58 l0_2 x28_3).f1) x22_2).bind fun t460 => (if (rd_L6 x3_3 x22_2).length < 17592186044416 then (net_Incidence.l1 k3 (x3_3.set (x22_2 : Int).toNat ((rd_L6 x3_3 x22_2) ++ [wrap64 (t459 - t460)])) x22_2 (y453.length : Int) x22_2 l0_2 (l0_2.length : Int) (wrap64 (x28_3 + 1)) a0_0 l0_1 l0_2) else (none))) = some r := H
                                have A25 := Aside0.mk A250
                                clear A250
                                replace H := Option.bind_eq_some_iff.mp H
                                obtain ⟨t460, A260, H⟩ := H
                                replace H : (if (rd_L6 x3_3 x22_2).length < 17592186044416 then (net_Incidence.l1 k3 (x3_3.set (x22_2 : Int).toNat ((rd_L6 x3_3 x22_2) ++ [wrap64 (t459 - t460)])) x22_2 (y453.length : Int) x22_2 l0_2 (l0_2.length : Int) (wrap64 (x28_3 + 1)) a0_0 l0_1 l0_2) else (none)) = some r := H
                                have A26 := Aside0.mk A260
                                clear A260
                                by_cases c27 : (rd_L6 x3_3 x22_2).length < 17592186044416
                                · rw [if_pos c27] at H
                                  have LMc27 := Aside0.mk c27
                                  clear c27
                                  obtain ⟨y461, hy461⟩ : ∃ y_ : List Int, y_ = ((rd_L6 x3_3 x22_2) ++ [wrap64 (t459 - t460)]) := ⟨_, rfl⟩
                                  replace H : (net_Incidence.l1 k3 (x3_3.set (x22_2 : Int).toNat y461) x22_2 (y453.length : Int) x22_2 l0_2 (l0_2.length : Int) (wrap64 (x28_3 + 1)) a0_0 l0_1 l0_2) = some r := by first | (rw [hy461]; with_reducible exact H) | (have H2_ := (Option.bind_some _ _).symm.trans H; rw [hy461]; with_reducible exact H2_) | (have H2_ := (Option.bind_some _ _).symm.trans H; with_reducible exact H2_) | with_reducible exact H | (rw [hy461]; exact H) | exact H
                                  have Ny461 := Aside0.mk hy461
                                  clear hy461
                                  obtain ⟨y464, hy464⟩ : ∃ y_ : List (List Int), y_ = (x3_3.set (x22_2 : Int).toNat y461) := ⟨_, rfl⟩
                                  replace H : (net_Incidence.l1 k3 y464 x22_2 (y453.length : Int) x22_2 l0_2 (l0_2.length : Int) (wrap64 (x28_3 + 1)) a0_0 l0_1 l0_2) = some r := by first | (rw [hy464]; with_reducible exact H) | (have H2_ := (Option.bind_some _ _).symm.trans H; rw [hy464]; with_reducible exact H2_) | (have H2_ := (Option.bind_some _ _).symm.trans H; with_reducible exact H2_) | with_reducible exact H | (rw [hy464]; exact H) | exact H
                                  have Ny464 := Aside0.mk hy464
                                  clear hy464
                                  have H' := Aside0.mk H
                                  clear H
                                  have p456 : 0 ≤ (x28_3 : Int) := of_decide_eq_true (by first | (with_reducible assumption) | assumption)
                                  have q456 : x28_3 < (l0_2.length : Int) := of_decide_eq_true (by first | (with_reducible assumption) | assumption)
                                  obtain ⟨ad456, A456_1, c456_1, A456_2, c456_2, A456_3, c456_3, e456, hx456_0, hx456_1, hx456_2, hx456_3, hx456_4, hl456_1, hi456_1, hl456_2, hi456_2, hl456_3, hi456_3⟩ := at_T58 HR0_2.out x28_3 p456 q456
                                  cases e456
                                  replace hx456_0 := (HB.out.cell (World.block_lt_of_cell? w _ hx456_0)).trans hx456_0
                                  replace hx456_1 := (HB.out.cell (World.block_lt_of_cell? w _ hx456_1)).trans hx456_1
                                  replace hx456_2 := (HB.out.cell (World.block_lt_of_cell? w _ hx456_2)).trans hx456_2
                                  replace hx456_3 := (HB.out.cell (World.block_lt_of_cell? w _ hx456_3)).trans hx456_3
                                  replace hx456_4 := (HB.out.cell (World.block_lt_of_cell? w _ hx456_4)).trans hx456_4
                                  have HR456_1 := Aside0.mk hi456_1
                                  have HC456_1 := Aside0.mk hl456_1
                                  clear hi456_1 hl456_1
                                  have HR456_2 := Aside0.mk hi456_2
                                  have HC456_2 := Aside0.mk hl456_2
                                  clear hi456_2 hl456_2
                                  have HR456_3 := Aside0.mk hi456_3
                                  have HC456_3 := Aside0.mk hl456_3
                                  clear hi456_3 hl456_3
                                  replace p456 := eq_true p456
                                  replace q456 := eq_true q456
                                  try go_wp2_with (first | ((with_reducible refine gate_dst (N := 6) rfl ?_); (try (refine gate_guard (by rfl) ?_; dsimp only)); refine box_event ?hg (N := 6) ?hd (cs := #[.string (⟨#[]⟩ : ByteArray), .slice none 0 0, .slice none 0 0, .slice none 0 0, .int .i64 0]) (t := 58) ?hr ?_; (case hd => rfl); (case hg => rfl); (case hr => first | (go_simp; done) | (go_simp; rfl)); intro gb457 hg w29 hbox hb; have n0_ := Aside0.mk (Kd.S_below (by (with_reducible repeat (first | apply Kd.S_alloc | apply Kd.S_drewN | apply Kd.S_drew)); exact HO_3.out) hb); have n1_ := Aside0.mk (blk_below (g := gb451) (o := .cells #[.string a0_0, .slice A0_1 l0_1.length c0_1, .slice (some ad456) l0_2.length c0_2] 25 (0, 0)) (by (with_reducible repeat (first | refine blk_drewN ?_ _ | refine blk_drew ?_ | refine blk_alloc ?_ _)); exact BK451.out) hb); have n2_ := Aside0.mk (below_step (by repeat (first | (with_reducible first | exact HB.out | apply below_alloc | apply pw_below_drewN | apply below_drew1 | refine below_set ?_ GE451.out) | exact HB.out)) hb); have n3_ := Aside0.mk (hbox); have n4_ := Aside0.mk ((by rw [hg]; exact (below_size (by repeat (first | (with_reducible first | exact HB.out | apply below_alloc | apply pw_below_drewN | apply below_drew1 | refine below_set ?_ GE451.out) | exact HB.out))) : w.heap.size ≤ gb457)); have n5_ := Aside0.mk ((by rw [hg]; exact (below_size (by repeat (first | (with_reducible first | exact HB.out | apply below_alloc | apply pw_below_drewN | apply below_drew1 | refine below_set ?_ GE451.out) | exact HB.out))) : w.heap.size ≤ gb457)); have n6_ := Aside0.mk ((by rw [hg]; exact Nat.ne_of_lt (blk_lt (g := gb451) (o := .cells #[.string a0_0, .slice A0_1 l0_1.length c0_1, .slice (some ad456) l0_2.length c0_2] 25 (0, 0)) (by (with_reducible repeat (first | refine blk_drewN ?_ _ | refine blk_drew ?_ | refine blk_alloc ?_ _)); exact BK451.out)) : gb451 ≠ gb457)); have n7_ := Aside0.mk ((by rw [hg]; exact Nat.ne_of_gt (blk_lt (g := gb451) (o := .cells #[.string a0_0, .slice A0_1 l0_1.length c0_1, .slice (some ad456) l0_2.length c0_2] 25 (0, 0)) (by (with_reducible repeat (first | refine blk_drewN ?_ _ | refine blk_drew ?_ | refine blk_alloc ?_ _)); exact BK451.out)) : gb457 ≠ gb451)); clear HO_3; clear BK451; clear HB; have HO_3 := n0_; have BK451 := n1_; have HB := n2_; have BK457 := n3_; have GW457 := n4_; have GE457 := n5_; have NB451_457 := n6_; have NB457_451 := n7_; clear n0_ n1_ n2_ n3_ n4_ n5_ n6_ n7_; clear hb hbox hg; have hnb30 := NB457_451.out; have hnc30 := NB451_457.out; have hcz31_0 : w29.cell? ⟨gb457, 0, none⟩ = some (.string (⟨#[]⟩ : ByteArray)) := (blk_cell BK457.out 0).trans rfl; have hcz31_1 : w29.cell? ⟨gb457, 1, none⟩ = some (.slice none 0 0) := (blk_cell BK457.out 1).trans rfl; have hcz31_2 : w29.cell? ⟨gb457, 2, none⟩ = some (.slice none 0 0) := (blk_cell BK457.out 2).trans rfl; have hcz31_3 : w29.cell? ⟨gb457, 3, none⟩ = some (.slice none 0 0) := (blk_cell BK457.out 3).trans rfl; have hcz31_4 : w29.cell? ⟨gb457, 4, none⟩ = some (.int .i64 0) := (blk_cell BK457.out 4).trans rfl; have hfz31_0 := blk_frozen BK457.out 0; have hfz31_1 := blk_frozen BK457.out 1; have hfz31_2 := blk_frozen BK457.out 2; have hfz31_3 := blk_frozen BK457.out 3; have hfz31_4 := blk_frozen BK457.out 4))
                                  have n0_ : Aside0 (Kd.S (Kd.slice 2 (Kd.int .i64)) 44 (((((w29.setCell ⟨gb457, 0, none⟩ (.string ((rd_T58 l0_2 x28_3).f0))).setCell ⟨gb457, 1, none⟩ (.slice A456_1 ((rd_T58 l0_2 x28_3).f1).length c456_1)).setCell ⟨gb457, 2, none⟩ (.slice A456_2 ((rd_T58 l0_2 x28_3).f2).length c456_2)).setCell ⟨gb457, 3, none⟩ (.slice A456_3 ((rd_T58 l0_2 x28_3).f3).length c456_3)).setCell ⟨gb457, 4, none⟩ (.int .i64 ((rd_T58 l0_2 x28_3).f4))) w.heap.size (fun _ => True) (.slice Ao17 x3_3.length co17) x3_3) := ⟨by (with_reducible repeat (first | apply Kd.S_alloc | apply Kd.S_drewN | apply Kd.S_drew)); exact Kd.S_mono (Kd.S_far (p := ⟨gb457, 4, none⟩) (Kd.S_far (p := ⟨gb457, 3, none⟩) (Kd.S_far (p := ⟨gb457, 2, none⟩) (Kd.S_far (p := ⟨gb457, 1, none⟩) (Kd.S_far (p := ⟨gb457, 0, none⟩) (Kd.S_types HO_3.out BK457.out (by decide)) (fun _ hk => hk.2) (.string ((rd_T58 l0_2 x28_3).f0))) (fun _ hk => hk.2) (.slice A456_1 ((rd_T58 l0_2 x28_3).f1).length c456_1)) (fun _ hk => hk.2) (.slice A456_2 ((rd_T58 l0_2 x28_3).f2).length c456_2)) (fun _ hk => hk.2) (.slice A456_3 ((rd_T58 l0_2 x28_3).f3).length c456_3)) (fun _ hk => hk.2) (.int .i64 ((rd_T58 l0_2 x28_3).f4))) (fun _ hk => trivial)⟩
                                  have n1_ : Aside0 ((((((w29.setCell ⟨gb457, 0, none⟩ (.string ((rd_T58 l0_2 x28_3).f0))).setCell ⟨gb457, 1, none⟩ (.slice A456_1 ((rd_T58 l0_2 x28_3).f1).length c456_1)).setCell ⟨gb457, 2, none⟩ (.slice A456_2 ((rd_T58 l0_2 x28_3).f2).length c456_2)).setCell ⟨gb457, 3, none⟩ (.slice A456_3 ((rd_T58 l0_2 x28_3).f3).length c456_3)).setCell ⟨gb457, 4, none⟩ (.int .i64 ((rd_T58 l0_2 x28_3).f4))).heap[gb451]? = some (.cells #[.string a0_0, .slice A0_1 l0_1.length c0_1, .slice (some ad456) l0_2.length c0_2] 25 (0, 0))) := ⟨by (with_reducible repeat (first | refine blk_drewN ?_ _ | refine blk_drew ?_ | refine blk_alloc ?_ _)); refine blk_far ?_ NB451_457.out _; (with_reducible repeat (first | refine blk_drewN ?_ _ | refine blk_drew ?_ | refine blk_alloc ?_ _)); refine blk_far ?_ NB451_457.out _; (with_reducible repeat (first | refine blk_drewN ?_ _ | refine blk_drew ?_ | refine blk_alloc ?_ _)); refine blk_far ?_ NB451_457.out _; (with_reducible repeat (first | refine blk_drewN ?_ _ | refine blk_drew ?_ | refine blk_alloc ?_ _)); refine blk_far ?_ NB451_457.out _; (with_reducible repeat (first | refine blk_drewN ?_ _ | refine blk_drew ?_ | refine blk_alloc ?_ _)); refine blk_far ?_ NB451_457.out _; (with_reducible repeat (first | refine blk_drewN ?_ _ | refine blk_drew ?_ | refine blk_alloc ?_ _)); exact BK451.out⟩
                                  have n2_ : Aside0 ((((((w29.setCell ⟨gb457, 0, none⟩ (.string ((rd_T58 l0_2 x28_3).f0))).setCell ⟨gb457, 1, none⟩ (.slice A456_1 ((rd_T58 l0_2 x28_3).f1).length c456_1)).setCell ⟨gb457, 2, none⟩ (.slice A456_2 ((rd_T58 l0_2 x28_3).f2).length c456_2)).setCell ⟨gb457, 3, none⟩ (.slice A456_3 ((rd_T58 l0_2 x28_3).f3).length c456_3)).setCell ⟨gb457, 4, none⟩ (.int .i64 ((rd_T58 l0_2 x28_3).f4))).heap[gb457]? = some (.cells #[.string ((rd_T58 l0_2 x28_3).f0), .slice A456_1 ((rd_T58 l0_2 x28_3).f1).length c456_1, .slice A456_2 ((rd_T58 l0_2 x28_3).f2).length c456_2, .slice A456_3 ((rd_T58 l0_2 x28_3).f3).length c456_3, .int .i64 ((rd_T58 l0_2 x28_3).f4)] 58 (0, 0))) := ⟨by (with_reducible repeat (first | refine blk_drewN ?_ _ | refine blk_drew ?_ | refine blk_alloc ?_ _)); refine blk_put (cs := #[.string ((rd_T58 l0_2 x28_3).f0), .slice A456_1 ((rd_T58 l0_2 x28_3).f1).length c456_1, .slice A456_2 ((rd_T58 l0_2 x28_3).f2).length c456_2, .slice A456_3 ((rd_T58 l0_2 x28_3).f3).length c456_3, .int .i64 0]) ?_ 4 _ rfl; (with_reducible repeat (first | refine blk_drewN ?_ _ | refine blk_drew ?_ | refine blk_alloc ?_ _)); refine blk_put (cs := #[.string ((rd_T58 l0_2 x28_3).f0), .slice A456_1 ((rd_T58 l0_2 x28_3).f1).length c456_1, .slice A456_2 ((rd_T58 l0_2 x28_3).f2).length c456_2, .slice none 0 0, .int .i64 0]) ?_ 3 _ rfl; (with_reducible repeat (first | refine blk_drewN ?_ _ | refine blk_drew ?_ | refine blk_alloc ?_ _)); refine blk_put (cs := #[.string ((rd_T58 l0_2 x28_3).f0), .slice A456_1 ((rd_T58 l0_2 x28_3).f1).length c456_1, .slice none 0 0, .slice none 0 0, .int .i64 0]) ?_ 2 _ rfl; (with_reducible repeat (first | refine blk_drewN ?_ _ | refine blk_drew ?_ | refine blk_alloc ?_ _)); refine blk_put (cs := #[.string ((rd_T58 l0_2 x28_3).f0), .slice none 0 0, .slice none 0 0, .slice none 0 0, .int .i64 0]) ?_ 1 _ rfl; (with_reducible repeat (first | refine blk_drewN ?_ _ | refine blk_drew ?_ | refine blk_alloc ?_ _)); refine blk_put (cs := #[.string (⟨#[]⟩ : ByteArray), .slice none 0 0, .slice none 0 0, .slice none 0 0, .int .i64 0]) ?_ 0 _ rfl; (with_reducible repeat (first | refine blk_drewN ?_ _ | refine blk_drew ?_ | refine blk_alloc ?_ _)); exact BK457.out⟩
                                  have n3_ : Aside0 (Below w.heap.size w (((((w29.setCell ⟨gb457, 0, none⟩ (.string ((rd_T58 l0_2 x28_3).f0))).setCell ⟨gb457, 1, none⟩ (.slice A456_1 ((rd_T58 l0_2 x28_3).f1).length c456_1)).setCell ⟨gb457, 2, none⟩ (.slice A456_2 ((rd_T58 l0_2 x28_3).f2).length c456_2)).setCell ⟨gb457, 3, none⟩ (.slice A456_3 ((rd_T58 l0_2 x28_3).f3).length c456_3)).setCell ⟨gb457, 4, none⟩ (.int .i64 ((rd_T58 l0_2 x28_3).f4)))) := ⟨by repeat (first | (with_reducible first | exact HB.out | apply below_alloc | apply pw_below_drewN | apply below_drew1 | refine below_set ?_ GE451.out | refine below_set ?_ GE457.out) | exact HB.out)⟩
                                  (try clear HO_3)
                                  (try clear BK451)
                                  (try clear BK457)
                                  (try clear HB)
                                  generalize (((((w29.setCell ⟨gb457, 0, none⟩ (.string ((rd_T58 l0_2 x28_3).f0))).setCell ⟨gb457, 1, none⟩ (.slice A456_1 ((rd_T58 l0_2 x28_3).f1).length c456_1)).setCell ⟨gb457, 2, none⟩ (.slice A456_2 ((rd_T58 l0_2 x28_3).f2).length c456_2)).setCell ⟨gb457, 3, none⟩ (.slice A456_3 ((rd_T58 l0_2 x28_3).f3).length c456_3)).setCell ⟨gb457, 4, none⟩ (.int .i64 ((rd_T58 l0_2 x28_3).f4))) = w32 at n0_ n1_ n2_ n3_ ⊢
                                  have HO_3 := n0_
                                  have BK451 := n1_
                                  have BK457 := n2_
                                  have HB := n3_
                                  clear n0_ n1_ n2_ n3_
                                  have n0_ := Aside0.mk (Kd.S_drew HO_3.out)
                                  have n1_ := Aside0.mk (blk_drew BK451.out)
                                  have n2_ := Aside0.mk (blk_drew BK457.out)
                                  have n3_ := Aside0.mk (below_drew1 HB.out)
                                  clear HO_3
                                  clear BK451
                                  clear BK457
                                  clear HB
                                  have HO_3 := n0_
                                  have BK451 := n1_
                                  have BK457 := n2_
                                  have HB := n3_
                                  clear n0_ n1_ n2_ n3_
                                  have p458 : 0 ≤ (x22_2 : Int) := of_decide_eq_true (by first | (with_reducible assumption) | assumption)
                                  have q458 : x22_2 < (x3_3.length : Int) := of_decide_eq_true (by first | (with_reducible assumption) | assumption)
                                  obtain ⟨ad458, A458_0, c458_0, e458, hx458_0, hl458_0, hi458_0⟩ := at_L6 (Kd.S_reads' HO_3.out).2.2 x22_2 p458 q458
                                  cases e458
                                  obtain ⟨ce458, hce458, hMe458, hcc458⟩ := Kd.S_get HO_3.out [] x22_2 p458 (by first | exact q458 | exact of_decide_eq_true (by first | (with_reducible assumption) | assumption) | (have e_ := (Kd.S_reads' HO_3.out).1; omega))
                                  obtain ⟨ve458_0, rfl, ge458_0⟩ := hMe458
                                  have hv458_0 := hcc458 0 _ rfl
                                  rw [Nat.add_zero, show ((Kd.slice 2 (Kd.int .i64))).sz = 1 from rfl, Nat.mul_one] at hv458_0
                                  replace hv458_0 := Option.some.inj (hv458_0.symm.trans hx458_0)
                                  rw [hv458_0] at ge458_0
                                  have HL458_0 := Aside0.mk (show Kd.R (Kd.int .i64) 2 _ _ _ _ (rd_L6 x3_3 x22_2) from ge458_0)
                                  clear hv458_0 ge458_0
                                  have HX458_0 := Aside0.mk hx458_0
                                  clear hcc458 hce458
                                  have HR458_0 := Aside0.mk hi458_0
                                  have HC458_0 := Aside0.mk hl458_0
                                  clear hi458_0 hl458_0
                                  replace p458 := eq_true p458
                                  replace q458 := eq_true q458
                                  refine start_ (n := 19) (S := fun w' => w'.cell? ⟨gb457, 0, none⟩ = some (.string ((rd_T58 l0_2 x28_3).f0)) ∧ w'.cell? ⟨gb457, 1, none⟩ = some (.slice A456_1 ((rd_T58 l0_2 x28_3).f1).length c456_1) ∧ w'.cell? ⟨gb457, 2, none⟩ = some (.slice A456_2 ((rd_T58 l0_2 x28_3).f2).length c456_2) ∧ w'.cell? ⟨gb457, 3, none⟩ = some (.slice A456_3 ((rd_T58 l0_2 x28_3).f3).length c456_3) ∧ w'.cell? ⟨gb457, 4, none⟩ = some (.int .i64 ((rd_T58 l0_2 x28_3).f4)) ∧ w'.cell? (ad458.add (x22_2).toNat) = some (.slice A458_0 (rd_L6 x3_3 x22_2).length c458_0)) (ds := [18]) #[false, false, false, false, false, false, false, false, false, false, false, false, false, false, false, false, false, false, false] (by kernel_rfl) rfl rfl ⟨(blk_cell BK457.out 0).trans rfl, (blk_cell BK457.out 1).trans rfl, (blk_cell BK457.out 2).trans rfl, (blk_cell BK457.out 3).trans rfl, (blk_cell BK457.out 4).trans rfl, hx458_0⟩ (fun hHeld => ?_); refine with_tabW net_Incidence.tab10 net_Incidence.bits10 (fun HT_ HW_ => ?_)
                                  generalize w32.drew = w33 at HO_3 BK451 BK457 HB HL458_0 HR458_0 HX458_0 hx458_0 hHeld ⊢
                                  refine pure_ (i := 0) (N := some 32) (v := ?_) (a' := ?_) #[true, false, false, false, false, false, false, false, false, false, false, false, false, false, false, false, false, false, false] rfl rfl (any_of HT_.out (by kernel_rfl)) (fun _ _ _ h => h) (Or.inl ⟨by rfl, ?_⟩) ?_ ?_
                                  rotate_left
                                  · intro w'
                                    go_simp
                                    with_reducible rfl
                                  rotate_left
                                  · simp only [Act.put, List.setIfInBounds_toArray, List.set_cons_zero, List.set_cons_succ, i64_w, i32_w]
                                    rfl
                                  refine pure_ (i := 1) (N := some 33) (v := ?_) (a' := ?_) #[true, true, false, false, false, false, false, false, false, false, false, false, false, false, false, false, false, false, false] rfl rfl (any_of HT_.out (by kernel_rfl)) (fun _ _ _ h => h) (Or.inl ⟨by rfl, ?_⟩) ?_ ?_
                                  rotate_left
                                  · intro w'
                                    go_simp
                                    with_reducible rfl
                                  rotate_left
                                  · simp only [Act.put, List.setIfInBounds_toArray, List.set_cons_zero, List.set_cons_succ, i64_w, i32_w]
                                    rfl
                                  refine pure_ (i := 2) (N := some 34) (v := ?_) (a' := ?_) #[true, true, true, false, false, false, false, false, false, false, false, false, false, false, false, false, false, false, false] rfl rfl (any_of HT_.out (by kernel_rfl)) (fun _ _ _ h => h) (Or.inl ⟨by rfl, ?_⟩) ?_ ?_
                                  rotate_left
                                  · intro w'
                                    go_simp
                                    with_reducible rfl
                                  rotate_left
                                  · simp only [Act.put, List.setIfInBounds_toArray, List.set_cons_zero, List.set_cons_succ, i64_w, i32_w]
                                    rfl
                                  refine pure_ (i := 3) (N := some 35) (v := ?_) (a' := ?_) #[true, true, true, true, false, false, false, false, false, false, false, false, false, false, false, false, false, false, false] rfl rfl (any_of HT_.out (by kernel_rfl)) (fun _ _ _ h => h) (Or.inl ⟨by rfl, ?_⟩) ?_ ?_
                                  rotate_left
                                  · intro w'
                                    go_simp
                                    with_reducible rfl
                                  rotate_left
                                  · simp only [Act.put, List.setIfInBounds_toArray, List.set_cons_zero, List.set_cons_succ, i64_w, i32_w]
                                    rfl
                                  refine pure_ (i := 4) (N := some 36) (v := ?_) (a' := ?_) #[true, true, true, true, true, false, false, false, false, false, false, false, false, false, false, false, false, false, false] rfl rfl (any_of HT_.out (by kernel_rfl)) (fun _ _ _ h => h) (Or.inl ⟨by rfl, ?_⟩) ?_ ?_
                                  rotate_left
                                  · intro w'
                                    go_simp
                                    with_reducible rfl
                                  rotate_left
                                  · simp only [Act.put, List.setIfInBounds_toArray, List.set_cons_zero, List.set_cons_succ, i64_w, i32_w]
                                    rfl
                                  refine pure_ (i := 6) (N := some 38) (v := ?_) (a' := ?_) #[true, true, true, true, true, false, true, false, false, false, false, false, false, false, false, false, false, false, false] rfl rfl (any_of HT_.out (by kernel_rfl)) (fun _ _ _ h => h) (Or.inl ⟨by rfl, ?_⟩) ?_ ?_
                                  rotate_left
                                  · intro w'
                                    go_simp
                                    with_reducible rfl
                                  rotate_left
                                  · simp only [Act.put, List.setIfInBounds_toArray, List.set_cons_zero, List.set_cons_succ, i64_w, i32_w]
                                    rfl
                                  refine pure_ (i := 8) (N := some 40) (v := ?_) (a' := ?_) #[true, true, true, true, true, false, true, false, true, false, false, false, false, false, false, false, false, false, false] rfl rfl (any_of HT_.out (by kernel_rfl)) (fun _ _ _ h => h) (Or.inl ⟨by rfl, ?_⟩) ?_ ?_
                                  rotate_left
                                  · intro w'
                                    go_simp
                                    with_reducible rfl
                                  rotate_left
                                  · simp only [Act.put, List.setIfInBounds_toArray, List.set_cons_zero, List.set_cons_succ, i64_w, i32_w]
                                    rfl
                                  refine pure_ (i := 10) (N := some 42) (v := ?_) (a' := ?_) #[true, true, true, true, true, false, true, false, true, false, true, false, false, false, false, false, false, false, false] rfl rfl (any_of HT_.out (by kernel_rfl)) (fun _ _ _ h => h) (Or.inl ⟨by rfl, ?_⟩) ?_ ?_
                                  rotate_left
                                  · intro w'
                                    go_simp
                                    with_reducible rfl
                                  rotate_left
                                  · simp only [Act.put, List.setIfInBounds_toArray, List.set_cons_zero, List.set_cons_succ, i64_w, i32_w]
                                    rfl
                                  refine pure_ (i := 12) (N := some 44) (v := ?_) (a' := ?_) #[true, true, true, true, true, false, true, false, true, false, true, false, true, false, false, false, false, false, false] rfl rfl (any_of HT_.out (by kernel_rfl)) (fun _ _ _ h => h) (Or.inl ⟨by rfl, ?_⟩) ?_ ?_
                                  rotate_left
                                  · intro w'
                                    go_simp
                                    with_reducible rfl
                                  rotate_left
                                  · simp only [Act.put, List.setIfInBounds_toArray, List.set_cons_zero, List.set_cons_succ, i64_w, i32_w]
                                    rfl
                                  refine take_ (i := 5) (N := some 37) (v := ?_) (a' := ?_) #[true, true, true, true, true, true, true, false, true, false, true, false, true, false, false, false, false, false, false] rfl rfl (take_ofW HT_.out HW_.out (by kernel_rfl)) (fun _ _ _ h => h) (Or.inl ⟨by rfl, ?_⟩) hHeld ?_ ?_
                                  rotate_left
                                  · rintro w' ⟨s0, s1, s2, s3, s4, s5⟩
                                    go_simp
                                    with_reducible rfl
                                  rotate_left
                                  · simp only [Act.put, List.setIfInBounds_toArray, List.set_cons_zero, List.set_cons_succ, i64_w, i32_w]
                                    rfl
                                  refine take_ (i := 7) (N := some 39) (v := ?_) (a' := ?_) #[true, true, true, true, true, true, true, true, true, false, true, false, true, false, false, false, false, false, false] rfl rfl (take_ofW HT_.out HW_.out (by kernel_rfl)) (fun _ _ _ h => h) (Or.inl ⟨by rfl, ?_⟩) hHeld ?_ ?_
                                  rotate_left
                                  · rintro w' ⟨s0, s1, s2, s3, s4, s5⟩
                                    go_simp
                                    with_reducible rfl
                                  rotate_left
                                  · simp only [Act.put, List.setIfInBounds_toArray, List.set_cons_zero, List.set_cons_succ, i64_w, i32_w]
                                    rfl
                                  refine take_ (i := 11) (N := some 43) (v := ?_) (a' := ?_) #[true, true, true, true, true, true, true, true, true, false, true, true, true, false, false, false, false, false, false] rfl rfl (take_ofW HT_.out HW_.out (by kernel_rfl)) (fun _ _ _ h => h) (Or.inl ⟨by rfl, ?_⟩) hHeld ?_ ?_
                                  rotate_left
                                  · rintro w' ⟨s0, s1, s2, s3, s4, s5⟩
                                    go_simp
                                    with_reducible rfl
                                  rotate_left
                                  · simp only [Act.put, List.setIfInBounds_toArray, List.set_cons_zero, List.set_cons_succ, i64_w, i32_w]
                                    rfl
                                  refine one_ (i := 9) (N := some 41) #[true, true, true, true, true, true, true, true, true, true, true, true, true, false, false, false, false, false, false] rfl rfl (one_of HT_.out (by kernel_rfl)) (by decide) (fun K hK => ?_)
                                  refine goes_ Try.func49 (by kernel_rfl) rfl #[.slice A456_2 ((rd_T58 l0_2 x28_3).f2).length c456_2, .int .i64 x22_2] (by rfl) rfl rfl (by (try simp only [List.map_toArray, List.map_cons, List.map_nil]); first | done | rfl | (simp only [List.length_drop, List.length_take]; rfl)) ?_
                                  with_reducible refine (net_weight.calls k3 _ _ ((rd_T58 l0_2 x28_3).f2) x22_2 t459 _ ?side1 ?side2 A25.out).mono ?_
                                  (case side1 => repeat (first | exact (Kd.C_below HR456_2.out HB.out) | (with_reducible refine Kd.C_alloc ?_ _) | (with_reducible refine Kd.C_drewN ?_ _) | (with_reducible refine Kd.C_drew ?_)))
                                  (case side2 => exact HC456_2.out)
                                  rintro e w34 ⟨rfl, hb⟩
                                  have HS5_ := (hb.cell (World.block_lt_of_cell? _ _ (hHeld.2.2.2.2.2))).trans (hHeld.2.2.2.2.2)
                                  refine ⟨_, rfl, ?_⟩
                                  have n0_ := Aside0.mk (Kd.S_below (by (with_reducible repeat (first | apply Kd.S_alloc | apply Kd.S_drewN | apply Kd.S_drew)); exact HO_3.out) hb)
                                  have n1_ := Aside0.mk (Kd.R_below (by (with_reducible repeat (first | apply Kd.R_alloc | apply Kd.R_drewN | apply Kd.R_drew)); exact HL458_0.out) hb)
                                  have n2_ := Aside0.mk (blk_below (g := gb451) (o := .cells #[.string a0_0, .slice A0_1 l0_1.length c0_1, .slice (some ad456) l0_2.length c0_2] 25 (0, 0)) (by (with_reducible repeat (first | refine blk_drewN ?_ _ | refine blk_drew ?_ | refine blk_alloc ?_ _)); exact BK451.out) hb)
                                  have n3_ := Aside0.mk (blk_below (g := gb457) (o := .cells #[.string ((rd_T58 l0_2 x28_3).f0), .slice A456_1 ((rd_T58 l0_2 x28_3).f1).length c456_1, .slice A456_2 ((rd_T58 l0_2 x28_3).f2).length c456_2, .slice A456_3 ((rd_T58 l0_2 x28_3).f3).length c456_3, .int .i64 ((rd_T58 l0_2 x28_3).f4)] 58 (0, 0)) (by (with_reducible repeat (first | refine blk_drewN ?_ _ | refine blk_drew ?_ | refine blk_alloc ?_ _)); exact BK457.out) hb)
                                  have n4_ := Aside0.mk (Kd.C_below (by repeat (first | (with_reducible exact HR458_0.out) | (with_reducible refine Kd.C_alloc ?_ _) | (with_reducible refine Kd.C_drewN ?_ _) | (with_reducible refine Kd.C_drew ?_) | exact HR458_0.out)) hb)
                                  have n5_ := Aside0.mk (pw_cell_below hb HX458_0.out)
                                  have n6_ := Aside0.mk (below_step (by repeat (first | (with_reducible first | exact HB.out | apply below_alloc | apply pw_below_drewN | apply below_drew1 | refine below_set ?_ GE451.out | refine below_set ?_ GE457.out) | exact HB.out)) hb)
                                  clear HO_3
                                  clear HL458_0
                                  clear BK451
                                  clear BK457
                                  clear HR458_0
                                  clear HX458_0
                                  clear HB
                                  have HO_3 := n0_
                                  have HL458_0 := n1_
                                  have BK451 := n2_
                                  have BK457 := n3_
                                  have HR458_0 := n4_
                                  have HX458_0 := n5_
                                  have HB := n6_
                                  clear n0_ n1_ n2_ n3_ n4_ n5_ n6_
                                  (try clear hb)
                                  (try clear hb2)
                                  (try clear hk)
                                  (try clear hi)
                                  refine hK.out _ _ ⟨(blk_cell BK457.out 0).trans rfl, (blk_cell BK457.out 1).trans rfl, (blk_cell BK457.out 2).trans rfl, (blk_cell BK457.out 3).trans rfl, (blk_cell BK457.out 4).trans rfl, HS5_⟩ (fun hHeld => ?_)
                                  clear hK K
                                  refine norm_ (a' := ?_) ?_ ?_
                                  rotate_left
                                  · show Act.put _ (some 41) _ = _
                                    simp only [Act.put, List.setIfInBounds_toArray, List.set_cons_zero, List.set_cons_succ, i64_w, i32_w]
                                    rfl
                                  refine one_ (i := 13) (N := some 45) #[true, true, true, true, true, true, true, true, true, true, true, true, true, true, false, false, false, false, false] rfl rfl (one_of HT_.out (by kernel_rfl)) (by decide) (fun K hK => ?_)
                                  refine goes_ Try.func49 (by kernel_rfl) rfl #[.slice A456_1 ((rd_T58 l0_2 x28_3).f1).length c456_1, .int .i64 x22_2] (by rfl) rfl rfl (by (try simp only [List.map_toArray, List.map_cons, List.map_nil]); first | done | rfl | (simp only [List.length_drop, List.length_take]; rfl)) ?_
                                  with_reducible refine (net_weight.calls k3 _ _ ((rd_T58 l0_2 x28_3).f1) x22_2 t460 _ ?side1 ?side2 A26.out).mono ?_
                                  (case side1 => repeat (first | exact (Kd.C_below HR456_1.out HB.out) | (with_reducible refine Kd.C_alloc ?_ _) | (with_reducible refine Kd.C_drewN ?_ _) | (with_reducible refine Kd.C_drew ?_)))
                                  (case side2 => exact HC456_1.out)
                                  rintro e w35 ⟨rfl, hb⟩
                                  have HS5_ := (hb.cell (World.block_lt_of_cell? _ _ (hHeld.2.2.2.2.2))).trans (hHeld.2.2.2.2.2)
                                  refine ⟨_, rfl, ?_⟩
                                  have n0_ := Aside0.mk (Kd.S_below (by (with_reducible repeat (first | apply Kd.S_alloc | apply Kd.S_drewN | apply Kd.S_drew)); exact HO_3.out) hb)
                                  have n1_ := Aside0.mk (Kd.R_below (by (with_reducible repeat (first | apply Kd.R_alloc | apply Kd.R_drewN | apply Kd.R_drew)); exact HL458_0.out) hb)
                                  have n2_ := Aside0.mk (blk_below (g := gb451) (o := .cells #[.string a0_0, .slice A0_1 l0_1.length c0_1, .slice (some ad456) l0_2.length c0_2] 25 (0, 0)) (by (with_reducible repeat (first | refine blk_drewN ?_ _ | refine blk_drew ?_ | refine blk_alloc ?_ _)); exact BK451.out) hb)
                                  have n3_ := Aside0.mk (blk_below (g := gb457) (o := .cells #[.string ((rd_T58 l0_2 x28_3).f0), .slice A456_1 ((rd_T58 l0_2 x28_3).f1).length c456_1, .slice A456_2 ((rd_T58 l0_2 x28_3).f2).length c456_2, .slice A456_3 ((rd_T58 l0_2 x28_3).f3).length c456_3, .int .i64 ((rd_T58 l0_2 x28_3).f4)] 58 (0, 0)) (by (with_reducible repeat (first | refine blk_drewN ?_ _ | refine blk_drew ?_ | refine blk_alloc ?_ _)); exact BK457.out) hb)
                                  have n4_ := Aside0.mk (Kd.C_below (by repeat (first | (with_reducible exact HR458_0.out) | (with_reducible refine Kd.C_alloc ?_ _) | (with_reducible refine Kd.C_drewN ?_ _) | (with_reducible refine Kd.C_drew ?_) | exact HR458_0.out)) hb)
                                  have n5_ := Aside0.mk (pw_cell_below hb HX458_0.out)
                                  have n6_ := Aside0.mk (below_step (by repeat (first | (with_reducible first | exact HB.out | apply below_alloc | apply pw_below_drewN | apply below_drew1 | refine below_set ?_ GE451.out | refine below_set ?_ GE457.out) | exact HB.out)) hb)
                                  clear HO_3
                                  clear HL458_0
                                  clear BK451
                                  clear BK457
                                  clear HR458_0
                                  clear HX458_0
                                  clear HB
                                  have HO_3 := n0_
                                  have HL458_0 := n1_
                                  have BK451 := n2_
                                  have BK457 := n3_
                                  have HR458_0 := n4_
                                  have HX458_0 := n5_
                                  have HB := n6_
                                  clear n0_ n1_ n2_ n3_ n4_ n5_ n6_
                                  (try clear hb)
                                  (try clear hb2)
                                  (try clear hk)
                                  (try clear hi)
                                  obtain ⟨go36, co36, eo36, gb36, gl36, cl36, HG36⟩ := Kd.S_form HO_3.out (by have h_ : (x22_2 : Int) < ((x3_3.length : Int) : Int) := of_decide_eq_true (by first | (with_reducible assumption) | assumption); have h2_ : 0 ≤ (x22_2 : Int) := (of_decide_eq_true (by first | (with_reducible assumption) | assumption)); omega)
                                  (first | cases eo36 | (injection eo36 with ea_ en_ ec_; (first | subst ea_ | (injection ea_ with ea_; subst ea_)); subst ec_; clear en_))
                                  have GB36 := Aside0.mk gb36
                                  have GG36 := Aside0.mk HG36
                                  clear gb36 gl36 HG36
                                  (first | simp only [add_plain] at hx458_0 | skip)
                                  obtain ⟨oki36, ce36, hcl36, hM36, hcc36, _, _, hH36⟩ := Kd.S_elem HO_3.out [] (x22_2 : Int) (of_decide_eq_true (by first | (with_reducible assumption) | assumption)) (by have h_ : (x22_2 : Int) < ((x3_3.length : Int) : Int) := of_decide_eq_true (by first | (with_reducible assumption) | assumption); first | exact h_ | (have e_ := (Kd.S_reads' HO_3.out).1; omega) | simpa using h_)
                                  obtain ⟨ve36_0, rfl, ge36_0⟩ := hM36
                                  have hv36 := hcc36 0 _ rfl
                                  have hX36 := HX458_0.out
                                  (try simp only [add_plain] at hX36)
                                  (try simp only [Nat.add_zero] at hv36)
                                  (try rw [show ((Kd.slice 2 (Kd.int .i64))).sz = 1 from rfl, Nat.mul_one] at hv36)
                                  replace hv36 := Option.some.inj (hv36.symm.trans hX36)
                                  subst hv36
                                  clear hX36 hcc36 hcl36
                                  have UU36 := Aside0.mk (show Kd.R (Kd.int .i64) 2 _ w.heap.size oki36 (.slice A458_0 (rd_L6 x3_3 x22_2).length c458_0) (rd_L6 x3_3 x22_2) from ge36_0)
                                  have HH36 := Aside0.mk hH36
                                  have HN36 := Aside0.mk (Kd.S_reads' HO_3.out).1
                                  clear hH36 ge36_0
                                  refine hK.out _ _ ⟨(blk_cell BK457.out 0).trans rfl, (blk_cell BK457.out 1).trans rfl, (blk_cell BK457.out 2).trans rfl, (blk_cell BK457.out 3).trans rfl, (blk_cell BK457.out 4).trans rfl, HS5_⟩ (fun hHeld => ?_)
                                  clear hK K
                                  refine norm_ (a' := ?_) ?_ ?_
                                  rotate_left
                                  · show Act.put _ (some 45) _ = _
                                    simp only [Act.put, List.setIfInBounds_toArray, List.set_cons_zero, List.set_cons_succ, i64_w, i32_w]
                                    rfl
                                  refine pure_ (i := 14) (N := some 46) (v := ?_) (a' := ?_) #[true, true, true, true, true, true, true, true, true, true, true, true, true, true, true, false, false, false, false] rfl rfl (any_of HT_.out (by kernel_rfl)) (fun _ _ _ h => h) (Or.inl ⟨by rfl, ?_⟩) ?_ ?_
                                  rotate_left
                                  · intro w'
                                    go_simp
                                    with_reducible rfl
                                  rotate_left
                                  · simp only [Act.put, List.setIfInBounds_toArray, List.set_cons_zero, List.set_cons_succ, i64_w, i32_w]
                                    rfl
                                  refine one_ (i := 15) (N := some 47) #[true, true, true, true, true, true, true, true, true, true, true, true, true, true, true, true, false, false, false] rfl rfl (one_of HT_.out (by kernel_rfl)) (by decide) (fun K hK => ?_)
                                  refine value_ (w1 := ?_) (v := ?_) (by rfl) rfl ?_ ?_
                                  rotate_left 2
                                  · go_simp
                                    constructor
                                    · rfl
                                    · rfl
                                  refine hK.out _ _ ⟨(blk_cell (blk_alloc BK457.out _) 0).trans rfl, (blk_cell (blk_alloc BK457.out _) 1).trans rfl, (blk_cell (blk_alloc BK457.out _) 2).trans rfl, (blk_cell (blk_alloc BK457.out _) 3).trans rfl, (blk_cell (blk_alloc BK457.out _) 4).trans rfl, (World.cell?_alloc_lt _ _ _ (World.block_lt_of_cell? _ _ (hHeld.2.2.2.2.2))).trans (hHeld.2.2.2.2.2)⟩ (fun hHeld => ?_)
                                  clear hK K
                                  refine norm_ (a' := ?_) ?_ ?_
                                  rotate_left
                                  · show Act.put _ (some 47) _ = _
                                    simp only [Act.put, List.setIfInBounds_toArray, List.set_cons_zero, List.set_cons_succ, i64_w, i32_w]
                                    rfl
                                  refine one_ (i := 16) (N := some 48) #[true, true, true, true, true, true, true, true, true, true, true, true, true, true, true, true, true, false, false] rfl rfl (one_of HT_.out (by kernel_rfl)) (by decide) (fun K hK => ?_)
                                  refine Kd.R_append_step (Kd.int .i64) (w0 := w) w.heap.size (by rfl) (.tmp 37) (.tmp 47) 44 2 (.int .i64 0) 8 rfl Try.underlying44 info2 rfl (by decide) (by omega) (.slice A458_0 (rd_L6 x3_3 x22_2).length c458_0) (rd_L6 x3_3 x22_2) (wrap64 (t459 - t460)) [.int .i64 (wrap64 (t459 - t460))] (fun k_ => oki36 k_ ∨ ((fun _ => True)) k_ ∧ w35.heap.size ≤ k_) (fun _ => False) rfl rfl ?aP (fun _ hk => hk.elim) ?aF ?aO ?aB ?aS ?aL ?_
                                  (case aP => exact rfl)
                                  (case aB => exact (by repeat (first | (with_reducible first | exact HB.out | apply below_alloc | apply pw_below_drewN | apply below_drew1 | refine below_set ?_ GE451.out | refine below_set ?_ GE457.out) | exact HB.out)))
                                  (case aF => exact (fun k_ hk => .inr ⟨trivial, hk⟩))
                                  (case aO => exact (by (with_reducible repeat (first | apply Kd.R_alloc | apply Kd.R_drewN | apply Kd.R_drew)); exact Kd.R_mono UU36.out (fun _ hk => .inl hk)))
                                  (case aS => exact (below_size (by repeat (first | (with_reducible first | exact HB.out | apply below_alloc | apply pw_below_drewN | apply below_drew1 | refine below_set ?_ GE451.out | refine below_set ?_ GE457.out) | exact HB.out))))
                                  (case aL => have := LMc27.out; omega)
                                  intro v462 w37 ho hb hg hat
                                  (first | have HS5_ := cell_grown hg (hHeld.2.2.2.2.2) (by first | (rw [add_block]; exact (fun e_ => ((HL458_0.out.1 _ e_.symm).2) rfl)) | (show some (Addr.add _ _).block ≠ _; rw [add_block]; exact (fun e_ => ((HL458_0.out.1 _ e_.symm).2) rfl)) | exact (fun e_ => ((HL458_0.out.1 _ e_.symm).2) rfl)) | have HS5_ := cell_grown hg (cell_unalloc (hHeld.2.2.2.2.2) (by first | (rw [add_block]; exact Kd.S_lt HO_3.out _ rfl) | (show (Addr.add _ _).block < _; rw [add_block]; exact Kd.S_lt HO_3.out _ rfl) | exact Kd.S_lt HO_3.out _ rfl)) (by first | (rw [add_block]; exact (fun e_ => ((HL458_0.out.1 _ e_.symm).2) rfl)) | (show some (Addr.add _ _).block ≠ _; rw [add_block]; exact (fun e_ => ((HL458_0.out.1 _ e_.symm).2) rfl)) | exact (fun e_ => ((HL458_0.out.1 _ e_.symm).2) rfl)))
                                  rw [← Ny461.out] at ho
                                  have n0_ := Aside0.mk (blk_grown (g := gb451) (o := .cells #[.string a0_0, .slice A0_1 l0_1.length c0_1, .slice (some ad456) l0_2.length c0_2] 25 (0, 0)) (by (with_reducible repeat (first | refine blk_drewN ?_ _ | refine blk_drew ?_ | refine blk_alloc ?_ _)); exact BK451.out) hg (Kd.R_ne HL458_0.out BK451.out (by decide)))
                                  have n1_ := Aside0.mk (blk_grown (g := gb457) (o := .cells #[.string ((rd_T58 l0_2 x28_3).f0), .slice A456_1 ((rd_T58 l0_2 x28_3).f1).length c456_1, .slice A456_2 ((rd_T58 l0_2 x28_3).f2).length c456_2, .slice A456_3 ((rd_T58 l0_2 x28_3).f3).length c456_3, .int .i64 ((rd_T58 l0_2 x28_3).f4)] 58 (0, 0)) (by (with_reducible repeat (first | refine blk_drewN ?_ _ | refine blk_drew ?_ | refine blk_alloc ?_ _)); exact BK457.out) hg (Kd.R_ne HL458_0.out BK457.out (by decide)))
                                  have n2_ := Aside0.mk (hb)
                                  have n3_ := Aside0.mk (Kd.H_grown (Kd.H_widen (by repeat (first | exact HH36.out | refine Kd.H_alloc ?_ _ | refine Kd.H_drewN ?_ _ | refine Kd.H_drew ?_))) hg (fun k_ e_ => .inl (UU36.out.1 k_ e_)))
                                  have n4_ := Aside0.mk (ho)
                                  clear BK451
                                  clear BK457
                                  clear HB
                                  clear HH36
                                  clear HO_3
                                  clear UU36
                                  clear HL458_0
                                  have BK451 := n0_
                                  have BK457 := n1_
                                  have HB := n2_
                                  have HH36 := n3_
                                  have HO463 := n4_
                                  clear n0_ n1_ n2_ n3_ n4_
                                  clear ho hb hg hat
                                  have p28 : 0 ≤ (x22_2 : Int) := of_decide_eq_true (by first | (with_reducible assumption) | assumption)
                                  have q28 : (x22_2 : Int) < ((x3_3.length : Int) : Int) := of_decide_eq_true (by first | (with_reducible assumption) | assumption)
                                  replace p28 := eq_true p28
                                  replace q28 := eq_true q28
                                  obtain ⟨Ao40, co40, eo40⟩ := Kd.R_slice HO463.out
                                  (first | subst eo40 | (injection eo40 with f1_ f2_ f3_; have f4_ := f1_.symm; have f5_ := f3_.symm; clear f1_ f2_ f3_; subst f4_; subst f5_))
                                  obtain ⟨_, _, hraw38, _, _, hcc38, _⟩ := Kd.H_raw HH36.out (of_decide_eq_true (by first | (with_reducible assumption) | assumption)) (by have h_ : (x22_2 : Int) < ((x3_3.length : Int) : Int) := of_decide_eq_true (by first | (with_reducible assumption) | assumption); first | exact h_ | (have e_ := (HN36.out); omega) | simpa using h_)
                                  obtain ⟨_, hfr38⟩ := Kd.H_at HH36.out (of_decide_eq_true (by first | (with_reducible assumption) | assumption)) (by have h_ : (x22_2 : Int) < ((x3_3.length : Int) : Int) := of_decide_eq_true (by first | (with_reducible assumption) | assumption); first | exact h_ | (have e_ := (HN36.out); omega) | simpa using h_)
                                  have hx38_0 := hcc38 0 _ rfl
                                  have hf38_0 := hfr38 0
                                  (try simp only [Nat.add_zero] at hx38_0 hf38_0)
                                  (try rw [show ((Kd.slice 2 (Kd.int .i64))).sz = 1 from rfl, Nat.mul_one] at hx38_0)
                                  (try rw [show ((Kd.slice 2 (Kd.int .i64))).sz = 1 from rfl, Nat.mul_one] at hf38_0)
                                  have HP38 := Kd.S_seg0 HH36.out (of_decide_eq_true (by first | (with_reducible assumption) | assumption)) (by have h_ : (x22_2 : Int) < ((x3_3.length : Int) : Int) := of_decide_eq_true (by first | (with_reducible assumption) | assumption); first | exact h_ | (have e_ := (HN36.out); omega) | simpa using h_) (seg := [.slice Ao40 y461.length co40]) (j := 0) (show 1 ≤ 1 from by decide) (x' := y461) (Kd.M_row HO463.out) (fun _ hk => hk)
                                  (try simp only [show ((Kd.slice 2 (Kd.int .i64))).sz = 1 from rfl, Nat.mul_one, Nat.add_zero] at HP38)
                                  clear hcc38 hfr38
                                  have HNB451_go36 := Aside0.mk (show gb451 ≠ go36 from by have h_ := Kd.R_ne hraw38 BK451.out (by decide); intro e_; exact h_ (by rw [e_]; rfl))
                                  have HNB457_go36 := Aside0.mk (show gb457 ≠ go36 from by have h_ := Kd.R_ne hraw38 BK457.out (by decide); intro e_; exact h_ (by rw [e_]; rfl))
                                  have HS38 := HP38.1
                                  rw [← Ny464.out] at HS38
                                  have HQ38 := Aside0.mk HS38
                                  obtain ⟨_, hgg38⟩ := Kd.R_typed hraw38 go36 rfl
                                  have GG38_ := Aside0.mk hgg38
                                  clear HP38 HS38 hgg38
                                  refine hK.out _ _ ⟨(blk_cell BK457.out 0).trans rfl, (blk_cell BK457.out 1).trans rfl, (blk_cell BK457.out 2).trans rfl, (blk_cell BK457.out 3).trans rfl, (blk_cell BK457.out 4).trans rfl, HS5_⟩ (fun hHeld => ?_)
                                  clear hK K
                                  refine norm_ (a' := ?_) ?_ ?_
                                  rotate_left
                                  · show Act.put _ (some 48) _ = _
                                    simp only [Act.put, List.setIfInBounds_toArray, List.set_cons_zero, List.set_cons_succ, i64_w, i32_w]
                                    rfl
                                  refine pure_ (i := 17) (N := some 49) (v := ?_) (a' := ?_) #[true, true, true, true, true, true, true, true, true, true, true, true, true, true, true, true, true, true, false] rfl rfl (any_of HT_.out (by kernel_rfl)) (fun _ _ _ h => h) (Or.inl ⟨by rfl, ?_⟩) ?_ ?_
                                  rotate_left
                                  · intro w'
                                    go_simp
                                    with_reducible rfl
                                  rotate_left
                                  · simp only [Act.put, List.setIfInBounds_toArray, List.set_cons_zero, List.set_cons_succ, i64_w, i32_w]
                                    rfl
                                  refine last_ (i := 18) (N := none) #[true, true, true, true, true, true, true, true, true, true, true, true, true, true, true, true, true, true, true] rfl rfl (one_of HT_.out (by kernel_rfl)) (by decide) (fun K hK => ?_)
                                  refine skip_ (w1 := ?_) (by rfl) rfl ?_ ?_
                                  rotate_left
                                  · go_simp
                                    rfl
                                  refine hK.out _ _ ?_
                                  clear hK K
                                  refine done_ (done_of HT_.out (by kernel_rfl)) ?_
                                  try go_wp2
                                  (try simp only [← hl3_3])
                                  go_roundg k3
                                  case measure => have := HJ1.out; have := HK2.out; have := HK3.out; omega
                                  case rel => exact ⟨(y464), (wrap64 (x28_3 + 1)), (by first | rfl | (simp; done) | (simp [*]; done)), H', ⟨by have := HJ1.out; have := HK2.out; have := HK3.out; omega⟩, ⟨by (try simp only [hl3_2]); (try simp only [hl3_3]); (with_reducible repeat (first | apply Kd.S_alloc | apply Kd.S_drewN | apply Kd.S_drew)); exact HQ38.out⟩, ⟨by (try simp only [hl3_2]); (try simp only [hl3_3]); (with_reducible repeat (first | refine blk_drewN ?_ _ | refine blk_drew ?_ | refine blk_alloc ?_ _)); refine blk_far ?_ HNB451_go36.out _; (with_reducible repeat (first | refine blk_drewN ?_ _ | refine blk_drew ?_ | refine blk_alloc ?_ _)); exact BK451.out⟩, ⟨by repeat (first | (with_reducible first | exact HB.out | apply below_alloc | apply pw_below_drewN | apply below_drew1 | refine below_set ?_ GB36.out | refine below_set ?_ GE451.out | refine below_set ?_ GE457.out) | exact HB.out)⟩⟩
                                · rw [if_neg c27] at H
                                  exact absurd H (by simp)
                              · rw [if_neg c24] at H
                                exact absurd H (by simp)
                            · rw [if_neg c23] at H
                              exact absurd H (by simp)
                          · rw [if_neg c22] at H
                            exact absurd H (by simp)
                        · rw [if_neg c21] at H
                          exact absurd H (by simp)
                      · rw [if_neg c20] at H
                        have c20b0 : decide (x28_3 < (l0_2.length : Int)) = false := decide_eq_false c20
                        clear c20
                        have H' := Aside0.mk H
                        clear H
                        go_wp2
                        (try simp only [← hl3_2, ← hl3_3])
                        go_roundg k3
                        case measure => have := HJ1.out; have := HK2.out; have := HK3.out; omega
                        case rel => exact ⟨(x3_3), (wrap64 (x22_2 + 1)), (by first | rfl | (simp; done) | (simp [*]; done)), H', ⟨by have := HJ1.out; have := HK2.out; have := HK3.out; omega⟩, ⟨by (try simp only [hl3_2]); (try simp only [hl3_3]); (with_reducible repeat (first | apply Kd.S_alloc | apply Kd.S_drewN | apply Kd.S_drew)); exact HO_3.out⟩, ⟨by (try simp only [hl3_2]); (try simp only [hl3_3]); (with_reducible repeat (first | refine blk_drewN ?_ _ | refine blk_drew ?_ | refine blk_alloc ?_ _)); exact BK451.out⟩, ⟨by repeat (first | (with_reducible first | exact HB.out | apply below_alloc | apply pw_below_drewN | apply below_drew1 | refine below_set ?_ GE451.out) | exact HB.out)⟩⟩
                · rw [if_neg c18] at H
                  have c18b0 : decide (x22_2 < (y453.length : Int)) = false := decide_eq_false c18
                  (try simp only [hl3_2] at c18b0)
                  clear c18
                  obtain rfl := Option.some.inj H
                  go_wp2
                  go_ret
                  exact ⟨_, by first | rfl | (simp [errW_none, errW_some] <;> rfl) | (simp [*, errW_none, errW_some] <;> rfl), by (with_reducible repeat (first | apply Kd.S_alloc | apply Kd.S_drewN | apply Kd.S_drew)); exact HO_3.out, by repeat (first | (with_reducible first | exact HB.out | apply below_alloc | apply pw_below_drewN | apply below_drew1 | refine below_set ?_ GE451.out) | exact HB.out)⟩
          · rw [if_neg c13] at H
            exact absurd H (by simp)
        · rw [if_neg c12] at H
          exact absurd H (by simp)

end Go.Proofs.Ytiamncgagfjegaa.Hy
