-- Written by hyb.sh (a program of this session, over the kit's printer), for the seat Ytiamncgagfjegaa.
import Derived.Test.YtiamncgagfjegaaH0
import Derived.Test.YtiamncgagfjegaaH8
import Derived.Test.YtiamncgagfjegaaH10
namespace Go.Proofs.Ytiamncgagfjegaa.Hy
open Go.RowKit Go.Proofs.YtiamncgagfjegaaW.PrintWords Go.Proofs.YtiamncgagfjegaaW.PrintLast Go.Proofs.YtiamncgagfjegaaW.PrintMore
attribute [local go_sem] max2_int min2_int max_two min_two max_three min_three max_four min_four   -- for this text's walks alone
set_option linter.unusedVariables false
set_option linter.unusedSimpArgs false

/-! ### petrinetref09_trans: function 59 -/
mutual
def petrinetref09_trans.l0 : Nat → Int → Int → ByteArray → List (S55) → List (S58) → ByteArray → List (S60) → List (S60) → List (S60) → Int → Option (Int)
  | 0, _, _, _, _, _, _, _, _, _, _ => none
  | k + 1, x1, x6, x183000, x183001, x183002, x185000, x185001, x185002, x185003, x185004 => if x6 < (x183001.length : Int) then (if 0 ≤ x6 then (if ((rd_T55 x183001 x6).f0).toList = x185000.toList then (some 6) else (petrinetref09_trans.l0 k x1 (wrap64 (x6 + 1)) x183000 x183001 x183002 x185000 x185001 x185002 x185003 x185004)) else (none)) else (petrinetref09_trans.l1 k x1 0 x183000 x183001 x183002 x185000 x185001 x185002 x185003 x185004)
def petrinetref09_trans.l1 : Nat → Int → Int → ByteArray → List (S55) → List (S58) → ByteArray → List (S60) → List (S60) → List (S60) → Int → Option (Int)
  | 0, _, _, _, _, _, _, _, _, _, _ => none
  | k + 1, x1, x7, x183000, x183001, x183002, x185000, x185001, x185002, x185003, x185004 => if x7 < x1 then (if 0 ≤ x7 then (if x7 < (x183002.length : Int) then (if ((rd_T58 x183002 x7).f0).toList = x185000.toList then (some 6) else (petrinetref09_trans.l1 k x1 (wrap64 (x7 + 1)) x183000 x183001 x183002 x185000 x185001 x185002 x185003 x185004)) else (none)) else (none)) else (if x185004 < 0 then (petrinetref09_trans.j2 k true x183000 x183001 x183002 x185000 x185001 x185002 x185003 x185004) else (petrinetref09_trans.j2 k (decide (x185004 > 9)) x183000 x183001 x183002 x185000 x185001 x185002 x185003 x185004))
def petrinetref09_trans.j2 : Nat → Bool → ByteArray → List (S55) → List (S58) → ByteArray → List (S60) → List (S60) → List (S60) → Int → Option (Int)
  | 0, _, _, _, _, _, _, _, _, _ => none
  | k + 1, x56, x183000, x183001, x183002, x185000, x185001, x185002, x185003, x185004 => if x56 = true then (some 1) else ((petrinetref09_arcs.f k x183000 x183001 x183002 x185001).bind fun t188 => (if t188 = 0 then ((petrinetref09_arcs.f k x183000 x183001 x183002 x185002).bind fun t189 => (if t189 = 0 then ((petrinetref09_arcs.f k x183000 x183001 x183002 x185003).bind fun t190 => (some t190)) else (some t189))) else (some t188)))
end
def petrinetref09_trans.f (k : Nat) (a0_0 : ByteArray) (l0_1 : List (S55)) (l0_2 : List (S58)) (a1 : Int) : Option (Int) := if 0 ≤ a1 then (if a1 < (l0_2.length : Int) then ((petrinetref09_Name.f k ((rd_T58 l0_2 a1).f0)).bind fun t185 => (if t185 = true then (petrinetref09_trans.l0 k a1 0 a0_0 l0_1 l0_2 ((rd_T58 l0_2 a1).f0) ((rd_T58 l0_2 a1).f1) ((rd_T58 l0_2 a1).f2) ((rd_T58 l0_2 a1).f3) ((rd_T58 l0_2 a1).f4)) else (some 5))) else (none)) else (none)
theorem petrinetref09_trans.mono_l : ∀ k, (∀ y0 y1 y2 y3 y4 y5 y6 y7 y8 y9, LeO (petrinetref09_trans.l0 k y0 y1 y2 y3 y4 y5 y6 y7 y8 y9) (petrinetref09_trans.l0 (k + 1) y0 y1 y2 y3 y4 y5 y6 y7 y8 y9)) ∧ (∀ y0 y1 y2 y3 y4 y5 y6 y7 y8 y9, LeO (petrinetref09_trans.l1 k y0 y1 y2 y3 y4 y5 y6 y7 y8 y9) (petrinetref09_trans.l1 (k + 1) y0 y1 y2 y3 y4 y5 y6 y7 y8 y9)) ∧ (∀ y0 y1 y2 y3 y4 y5 y6 y7 y8, LeO (petrinetref09_trans.j2 k y0 y1 y2 y3 y4 y5 y6 y7 y8) (petrinetref09_trans.j2 (k + 1) y0 y1 y2 y3 y4 y5 y6 y7 y8))
  | 0 => ⟨fun _ _ _ _ _ _ _ _ _ _ r h => by simp [petrinetref09_trans.l0] at h, fun _ _ _ _ _ _ _ _ _ _ r h => by simp [petrinetref09_trans.l1] at h, fun _ _ _ _ _ _ _ _ _ r h => by simp [petrinetref09_trans.j2] at h⟩
  | k + 1 => by
    obtain ⟨ih0, ih1, ih2⟩ := petrinetref09_trans.mono_l k
    refine ⟨?_, ?_, ?_⟩
    · intro y0 y1 y2 y3 y4 y5 y6 y7 y8 y9
      unfold petrinetref09_trans.l0
      repeat' first
      | (with_reducible exact ih0 _ _ _ _ _ _ _ _ _ _)
      | (with_reducible exact ih1 _ _ _ _ _ _ _ _ _ _)
      | (with_reducible exact ih2 _ _ _ _ _ _ _ _ _)
      | (with_reducible exact petrinetref09_Name.mono _ _)
      | (with_reducible exact petrinetref09_arcs.mono _ _ _ _ _)
      | (with_reducible exact LeO.refl _)
      | (with_reducible exact LeO.none _)
      | (with_reducible refine LeO.ite ?_ ?_)
      | (with_reducible refine LeO.bind ?_ (fun _ => ?_))
      | exact ih0 _ _ _ _ _ _ _ _ _ _
      | exact ih1 _ _ _ _ _ _ _ _ _ _
      | exact ih2 _ _ _ _ _ _ _ _ _
      | exact petrinetref09_Name.mono _ _
      | exact petrinetref09_arcs.mono _ _ _ _ _
      | exact LeO.none _
      | refine LeO.ite ?_ ?_
      | refine LeO.bind ?_ (fun _ => ?_)
    · intro y0 y1 y2 y3 y4 y5 y6 y7 y8 y9
      unfold petrinetref09_trans.l1
      repeat' first
      | (with_reducible exact ih0 _ _ _ _ _ _ _ _ _ _)
      | (with_reducible exact ih1 _ _ _ _ _ _ _ _ _ _)
      | (with_reducible exact ih2 _ _ _ _ _ _ _ _ _)
      | (with_reducible exact petrinetref09_Name.mono _ _)
      | (with_reducible exact petrinetref09_arcs.mono _ _ _ _ _)
      | (with_reducible exact LeO.refl _)
      | (with_reducible exact LeO.none _)
      | (with_reducible refine LeO.ite ?_ ?_)
      | (with_reducible refine LeO.bind ?_ (fun _ => ?_))
      | exact ih0 _ _ _ _ _ _ _ _ _ _
      | exact ih1 _ _ _ _ _ _ _ _ _ _
      | exact ih2 _ _ _ _ _ _ _ _ _
      | exact petrinetref09_Name.mono _ _
      | exact petrinetref09_arcs.mono _ _ _ _ _
      | exact LeO.none _
      | refine LeO.ite ?_ ?_
      | refine LeO.bind ?_ (fun _ => ?_)
    · intro y0 y1 y2 y3 y4 y5 y6 y7 y8
      unfold petrinetref09_trans.j2
      repeat' first
      | (with_reducible exact ih0 _ _ _ _ _ _ _ _ _ _)
      | (with_reducible exact ih1 _ _ _ _ _ _ _ _ _ _)
      | (with_reducible exact ih2 _ _ _ _ _ _ _ _ _)
      | (with_reducible exact petrinetref09_Name.mono _ _)
      | (with_reducible exact petrinetref09_arcs.mono _ _ _ _ _)
      | (with_reducible exact LeO.refl _)
      | (with_reducible exact LeO.none _)
      | (with_reducible refine LeO.ite ?_ ?_)
      | (with_reducible refine LeO.bind ?_ (fun _ => ?_))
      | exact ih0 _ _ _ _ _ _ _ _ _ _
      | exact ih1 _ _ _ _ _ _ _ _ _ _
      | exact ih2 _ _ _ _ _ _ _ _ _
      | exact petrinetref09_Name.mono _ _
      | exact petrinetref09_arcs.mono _ _ _ _ _
      | exact LeO.none _
      | refine LeO.ite ?_ ?_
      | refine LeO.bind ?_ (fun _ => ?_)
theorem petrinetref09_trans.mono : ∀ a0 a1 a2 a3 k, LeO (petrinetref09_trans.f k a0 a1 a2 a3) (petrinetref09_trans.f (k + 1) a0 a1 a2 a3) := by
  intro a0 a1 a2 a3 k
  obtain ⟨ih0, ih1, ih2⟩ := petrinetref09_trans.mono_l k
  unfold petrinetref09_trans.f
  repeat' first
      | (with_reducible exact ih0 _ _ _ _ _ _ _ _ _ _)
      | (with_reducible exact ih1 _ _ _ _ _ _ _ _ _ _)
      | (with_reducible exact ih2 _ _ _ _ _ _ _ _ _)
      | (with_reducible exact petrinetref09_Name.mono _ _)
      | (with_reducible exact petrinetref09_arcs.mono _ _ _ _ _)
      | (with_reducible exact LeO.refl _)
      | (with_reducible exact LeO.none _)
      | (with_reducible refine LeO.ite ?_ ?_)
      | (with_reducible refine LeO.bind ?_ (fun _ => ?_))
      | exact ih0 _ _ _ _ _ _ _ _ _ _
      | exact ih1 _ _ _ _ _ _ _ _ _ _
      | exact ih2 _ _ _ _ _ _ _ _ _
      | exact petrinetref09_Name.mono _ _
      | exact petrinetref09_arcs.mono _ _ _ _ _
      | exact LeO.none _
      | refine LeO.ite ?_ ?_
      | refine LeO.bind ?_ (fun _ => ?_)
set_option maxHeartbeats 8000000 in
set_option maxRecDepth 100000 in
theorem petrinetref09_trans.calls (k : Nat) (a0_0 : ByteArray) (A0_1 : Option Addr) (c0_1 : Nat) (l0_1 : List (S55)) (A0_2 : Option Addr) (c0_2 : Nat) (l0_2 : List (S58)) (a1 : Int) (r : Int) (w : World) (hr0_1 : Kd.C k55 w A0_1 l0_1.length l0_1) (hc0_1 : l0_1.length ≤ c0_1) (hr0_2 : Kd.C k58 w A0_2 l0_2.length l0_2) (hc0_2 : l0_2.length ≤ c0_2) (h : petrinetref09_trans.f k a0_0 l0_1 l0_2 a1 = some r) :
    Calls Try.prog 59 #[.agg #[.string a0_0, .slice A0_1 l0_1.length c0_1, .slice A0_2 l0_2.length c0_2], .int .i64 a1] w fun e w' => e = .returned (.int .i64 r) ∧ Below w.heap.size w w' := by
  have hu25 := Try.underlying25
  have hu58 := Try.underlying58
  have HR0_1 := Aside0.mk hr0_1
  have HC0_1 := Aside0.mk hc0_1
  clear hr0_1 hc0_1
  have HR0_2 := Aside0.mk hr0_2
  have HC0_2 := Aside0.mk hc0_2
  clear hr0_2 hc0_2
  have HB := Aside0.mk (Below.refl w.heap.size w)
  have H : (if 0 ≤ a1 then (if a1 < (l0_2.length : Int) then ((petrinetref09_Name.f k ((rd_T58 l0_2 a1).f0)).bind fun t185 => (if t185 = true then (petrinetref09_trans.l0 k a1 0 a0_0 l0_1 l0_2 ((rd_T58 l0_2 a1).f0) ((rd_T58 l0_2 a1).f1) ((rd_T58 l0_2 a1).f2) ((rd_T58 l0_2 a1).f3) ((rd_T58 l0_2 a1).f4)) else (some 5))) else (none)) else (none)) = some r := h
  clear h
  by_cases c3 : 0 ≤ a1
  · rw [if_pos c3] at H
    have c3b0 : decide (0 ≤ a1) = true := decide_eq_true c3
    clear c3
    by_cases c4 : a1 < (l0_2.length : Int)
    · rw [if_pos c4] at H
      have c4b0 : decide (a1 < (l0_2.length : Int)) = true := decide_eq_true c4
      clear c4
      replace H := Option.bind_eq_some_iff.mp H
      obtain ⟨t185, A50, H⟩ := H
      replace H : (if t185 = true then (petrinetref09_trans.l0 k a1 0 a0_0 l0_1 l0_2 ((rd_T58 l0_2 a1).f0) ((rd_T58 l0_2 a1).f1) ((rd_T58 l0_2 a1).f2) ((rd_T58 l0_2 a1).f3) ((rd_T58 l0_2 a1).f4)) else (some 5)) = some r := H
      have A5 := Aside0.mk A50
      clear A50
      by_cases c6 : t185 = true
      · subst c6
        have H1 : (petrinetref09_trans.l0 k a1 0 a0_0 l0_1 l0_2 ((rd_T58 l0_2 a1).f0) ((rd_T58 l0_2 a1).f1) ((rd_T58 l0_2 a1).f2) ((rd_T58 l0_2 a1).f3) ((rd_T58 l0_2 a1).f4)) = some r := by rw [if_pos rfl] at H; exact H
        clear H
        have H := H1
        clear H1
        have H' := Aside0.mk H
        clear H
        go_enter Try.func59, Try.ntmps59
        go_wp2_with (first | ((with_reducible refine gate_dst (N := 2) rfl ?_); refine box_event ?hg (N := 2) ?hd (cs := #[.string a0_0, .slice A0_1 l0_1.length c0_1, .slice A0_2 l0_2.length c0_2]) (t := 25) ?hr ?_; (case hd => rfl); (case hg => rfl); (case hr => first | (go_simp; done) | (go_simp; rfl)); intro gb182 hg w7 hbox hb; have n0_ := Aside0.mk (below_step (by repeat (first | (with_reducible first | exact HB.out | apply below_alloc | apply pw_below_drewN | apply below_drew1) | exact HB.out)) hb); have n1_ := Aside0.mk (hbox); have n2_ := Aside0.mk ((by rw [hg]; exact (below_size (by repeat (first | (with_reducible first | exact HB.out | apply below_alloc | apply pw_below_drewN | apply below_drew1) | exact HB.out))) : w.heap.size ≤ gb182)); have n3_ := Aside0.mk ((by rw [hg]; exact (below_size (by repeat (first | (with_reducible first | exact HB.out | apply below_alloc | apply pw_below_drewN | apply below_drew1) | exact HB.out))) : w.heap.size ≤ gb182)); clear HB; have HB := n0_; have BK182 := n1_; have GW182 := n2_; have GE182 := n3_; clear n0_ n1_ n2_ n3_; clear hb hbox hg; have hcz8_0 : w7.cell? ⟨gb182, 0, none⟩ = some (.string a0_0) := (blk_cell BK182.out 0).trans rfl; have hcz8_1 : w7.cell? ⟨gb182, 1, none⟩ = some (.slice A0_1 l0_1.length c0_1) := (blk_cell BK182.out 1).trans rfl; have hcz8_2 : w7.cell? ⟨gb182, 2, none⟩ = some (.slice A0_2 l0_2.length c0_2) := (blk_cell BK182.out 2).trans rfl; have hfz8_0 := blk_frozen BK182.out 0; have hfz8_1 := blk_frozen BK182.out 1; have hfz8_2 := blk_frozen BK182.out 2; have p183 : 0 ≤ (a1 : Int) := of_decide_eq_true (by first | (with_reducible assumption) | assumption); have q183 : a1 < (l0_2.length : Int) := of_decide_eq_true (by first | (with_reducible assumption) | assumption); obtain ⟨ad183, A183_1, c183_1, A183_2, c183_2, A183_3, c183_3, e183, hx183_0, hx183_1, hx183_2, hx183_3, hx183_4, hl183_1, hi183_1, hl183_2, hi183_2, hl183_3, hi183_3⟩ := at_T58 HR0_2.out a1 p183 q183; cases e183; replace hx183_0 := (HB.out.cell (World.block_lt_of_cell? w _ hx183_0)).trans hx183_0; replace hx183_1 := (HB.out.cell (World.block_lt_of_cell? w _ hx183_1)).trans hx183_1; replace hx183_2 := (HB.out.cell (World.block_lt_of_cell? w _ hx183_2)).trans hx183_2; replace hx183_3 := (HB.out.cell (World.block_lt_of_cell? w _ hx183_3)).trans hx183_3; replace hx183_4 := (HB.out.cell (World.block_lt_of_cell? w _ hx183_4)).trans hx183_4; have HR183_1 := Aside0.mk hi183_1; have HC183_1 := Aside0.mk hl183_1; clear hi183_1 hl183_1; have HR183_2 := Aside0.mk hi183_2; have HC183_2 := Aside0.mk hl183_2; clear hi183_2 hl183_2; have HR183_3 := Aside0.mk hi183_3; have HC183_3 := Aside0.mk hl183_3; clear hi183_3 hl183_3; replace p183 := eq_true p183; replace q183 := eq_true q183) | ((with_reducible refine gate_dst (N := 5) rfl ?_); refine box_event ?hg (N := 5) ?hd (cs := #[.string (⟨#[]⟩ : ByteArray), .slice none 0 0, .slice none 0 0, .slice none 0 0, .int .i64 0]) (t := 58) ?hr ?_; (case hd => rfl); (case hg => rfl); (case hr => first | (go_simp; done) | (go_simp; rfl)); intro gb184 hg w9 hbox hb; have n0_ := Aside0.mk (blk_below (g := gb182) (o := .cells #[.string a0_0, .slice A0_1 l0_1.length c0_1, .slice (some ad183) l0_2.length c0_2] 25 (0, 0)) (by (with_reducible repeat (first | refine blk_drewN ?_ _ | refine blk_drew ?_ | refine blk_alloc ?_ _)); exact BK182.out) hb); have n1_ := Aside0.mk (below_step (by repeat (first | (with_reducible first | exact HB.out | apply below_alloc | apply pw_below_drewN | apply below_drew1 | refine below_set ?_ GE182.out) | exact HB.out)) hb); have n2_ := Aside0.mk (hbox); have n3_ := Aside0.mk ((by rw [hg]; exact (below_size (by repeat (first | (with_reducible first | exact HB.out | apply below_alloc | apply pw_below_drewN | apply below_drew1 | refine below_set ?_ GE182.out) | exact HB.out))) : w.heap.size ≤ gb184)); have n4_ := Aside0.mk ((by rw [hg]; exact (below_size (by repeat (first | (with_reducible first | exact HB.out | apply below_alloc | apply pw_below_drewN | apply below_drew1 | refine below_set ?_ GE182.out) | exact HB.out))) : w.heap.size ≤ gb184)); have n5_ := Aside0.mk ((by rw [hg]; exact Nat.ne_of_lt (blk_lt (g := gb182) (o := .cells #[.string a0_0, .slice A0_1 l0_1.length c0_1, .slice (some ad183) l0_2.length c0_2] 25 (0, 0)) (by (with_reducible repeat (first | refine blk_drewN ?_ _ | refine blk_drew ?_ | refine blk_alloc ?_ _)); exact BK182.out)) : gb182 ≠ gb184)); have n6_ := Aside0.mk ((by rw [hg]; exact Nat.ne_of_gt (blk_lt (g := gb182) (o := .cells #[.string a0_0, .slice A0_1 l0_1.length c0_1, .slice (some ad183) l0_2.length c0_2] 25 (0, 0)) (by (with_reducible repeat (first | refine blk_drewN ?_ _ | refine blk_drew ?_ | refine blk_alloc ?_ _)); exact BK182.out)) : gb184 ≠ gb182)); clear BK182; clear HB; have BK182 := n0_; have HB := n1_; have BK184 := n2_; have GW184 := n3_; have GE184 := n4_; have NB182_184 := n5_; have NB184_182 := n6_; clear n0_ n1_ n2_ n3_ n4_ n5_ n6_; clear hb hbox hg; have hnb10 := NB184_182.out; have hnc10 := NB182_184.out; have hcz11_0 : w9.cell? ⟨gb184, 0, none⟩ = some (.string (⟨#[]⟩ : ByteArray)) := (blk_cell BK184.out 0).trans rfl; have hcz11_1 : w9.cell? ⟨gb184, 1, none⟩ = some (.slice none 0 0) := (blk_cell BK184.out 1).trans rfl; have hcz11_2 : w9.cell? ⟨gb184, 2, none⟩ = some (.slice none 0 0) := (blk_cell BK184.out 2).trans rfl; have hcz11_3 : w9.cell? ⟨gb184, 3, none⟩ = some (.slice none 0 0) := (blk_cell BK184.out 3).trans rfl; have hcz11_4 : w9.cell? ⟨gb184, 4, none⟩ = some (.int .i64 0) := (blk_cell BK184.out 4).trans rfl; have hfz11_0 := blk_frozen BK184.out 0; have hfz11_1 := blk_frozen BK184.out 1; have hfz11_2 := blk_frozen BK184.out 2; have hfz11_3 := blk_frozen BK184.out 3; have hfz11_4 := blk_frozen BK184.out 4) | (go_at_call 57; (with_reducible refine (petrinetref09_Name.calls k ((rd_T58 l0_2 a1).f0) true _ A5.out).mono ?_); rintro e w' ⟨rfl, ⟨nd, rfl⟩⟩; (try first | exact ⟨rfl, _, World.drewN_drewN _ _ _⟩ | exact ⟨rfl, _, Eq.trans (World.drewN_drewN _ _ _) (congrArg (World.drewN _) (Nat.add_assoc _ _ _))⟩)))
        repeat (go_quiet (first | ((with_reducible refine gate_dst (N := 2) rfl ?_); refine box_event ?hg (N := 2) ?hd (cs := #[.string a0_0, .slice A0_1 l0_1.length c0_1, .slice A0_2 l0_2.length c0_2]) (t := 25) ?hr ?_; (case hd => rfl); (case hg => rfl); (case hr => first | (go_simp; done) | (go_simp; rfl)); intro gb182 hg w7 hbox hb; have n0_ := Aside0.mk (below_step (by repeat (first | (with_reducible first | exact HB.out | apply below_alloc | apply pw_below_drewN | apply below_drew1) | exact HB.out)) hb); have n1_ := Aside0.mk (hbox); have n2_ := Aside0.mk ((by rw [hg]; exact (below_size (by repeat (first | (with_reducible first | exact HB.out | apply below_alloc | apply pw_below_drewN | apply below_drew1) | exact HB.out))) : w.heap.size ≤ gb182)); have n3_ := Aside0.mk ((by rw [hg]; exact (below_size (by repeat (first | (with_reducible first | exact HB.out | apply below_alloc | apply pw_below_drewN | apply below_drew1) | exact HB.out))) : w.heap.size ≤ gb182)); clear HB; have HB := n0_; have BK182 := n1_; have GW182 := n2_; have GE182 := n3_; clear n0_ n1_ n2_ n3_; clear hb hbox hg; have hcz8_0 : w7.cell? ⟨gb182, 0, none⟩ = some (.string a0_0) := (blk_cell BK182.out 0).trans rfl; have hcz8_1 : w7.cell? ⟨gb182, 1, none⟩ = some (.slice A0_1 l0_1.length c0_1) := (blk_cell BK182.out 1).trans rfl; have hcz8_2 : w7.cell? ⟨gb182, 2, none⟩ = some (.slice A0_2 l0_2.length c0_2) := (blk_cell BK182.out 2).trans rfl; have hfz8_0 := blk_frozen BK182.out 0; have hfz8_1 := blk_frozen BK182.out 1; have hfz8_2 := blk_frozen BK182.out 2; have p183 : 0 ≤ (a1 : Int) := of_decide_eq_true (by first | (with_reducible assumption) | assumption); have q183 : a1 < (l0_2.length : Int) := of_decide_eq_true (by first | (with_reducible assumption) | assumption); obtain ⟨ad183, A183_1, c183_1, A183_2, c183_2, A183_3, c183_3, e183, hx183_0, hx183_1, hx183_2, hx183_3, hx183_4, hl183_1, hi183_1, hl183_2, hi183_2, hl183_3, hi183_3⟩ := at_T58 HR0_2.out a1 p183 q183; cases e183; replace hx183_0 := (HB.out.cell (World.block_lt_of_cell? w _ hx183_0)).trans hx183_0; replace hx183_1 := (HB.out.cell (World.block_lt_of_cell? w _ hx183_1)).trans hx183_1; replace hx183_2 := (HB.out.cell (World.block_lt_of_cell? w _ hx183_2)).trans hx183_2; replace hx183_3 := (HB.out.cell (World.block_lt_of_cell? w _ hx183_3)).trans hx183_3; replace hx183_4 := (HB.out.cell (World.block_lt_of_cell? w _ hx183_4)).trans hx183_4; have HR183_1 := Aside0.mk hi183_1; have HC183_1 := Aside0.mk hl183_1; clear hi183_1 hl183_1; have HR183_2 := Aside0.mk hi183_2; have HC183_2 := Aside0.mk hl183_2; clear hi183_2 hl183_2; have HR183_3 := Aside0.mk hi183_3; have HC183_3 := Aside0.mk hl183_3; clear hi183_3 hl183_3; replace p183 := eq_true p183; replace q183 := eq_true q183) | ((with_reducible refine gate_dst (N := 5) rfl ?_); refine box_event ?hg (N := 5) ?hd (cs := #[.string (⟨#[]⟩ : ByteArray), .slice none 0 0, .slice none 0 0, .slice none 0 0, .int .i64 0]) (t := 58) ?hr ?_; (case hd => rfl); (case hg => rfl); (case hr => first | (go_simp; done) | (go_simp; rfl)); intro gb184 hg w9 hbox hb; have n0_ := Aside0.mk (blk_below (g := gb182) (o := .cells #[.string a0_0, .slice A0_1 l0_1.length c0_1, .slice (some ad183) l0_2.length c0_2] 25 (0, 0)) (by (with_reducible repeat (first | refine blk_drewN ?_ _ | refine blk_drew ?_ | refine blk_alloc ?_ _)); exact BK182.out) hb); have n1_ := Aside0.mk (below_step (by repeat (first | (with_reducible first | exact HB.out | apply below_alloc | apply pw_below_drewN | apply below_drew1 | refine below_set ?_ GE182.out) | exact HB.out)) hb); have n2_ := Aside0.mk (hbox); have n3_ := Aside0.mk ((by rw [hg]; exact (below_size (by repeat (first | (with_reducible first | exact HB.out | apply below_alloc | apply pw_below_drewN | apply below_drew1 | refine below_set ?_ GE182.out) | exact HB.out))) : w.heap.size ≤ gb184)); have n4_ := Aside0.mk ((by rw [hg]; exact (below_size (by repeat (first | (with_reducible first | exact HB.out | apply below_alloc | apply pw_below_drewN | apply below_drew1 | refine below_set ?_ GE182.out) | exact HB.out))) : w.heap.size ≤ gb184)); have n5_ := Aside0.mk ((by rw [hg]; exact Nat.ne_of_lt (blk_lt (g := gb182) (o := .cells #[.string a0_0, .slice A0_1 l0_1.length c0_1, .slice (some ad183) l0_2.length c0_2] 25 (0, 0)) (by (with_reducible repeat (first | refine blk_drewN ?_ _ | refine blk_drew ?_ | refine blk_alloc ?_ _)); exact BK182.out)) : gb182 ≠ gb184)); have n6_ := Aside0.mk ((by rw [hg]; exact Nat.ne_of_gt (blk_lt (g := gb182) (o := .cells #[.string a0_0, .slice A0_1 l0_1.length c0_1, .slice (some ad183) l0_2.length c0_2] 25 (0, 0)) (by (with_reducible repeat (first | refine blk_drewN ?_ _ | refine blk_drew ?_ | refine blk_alloc ?_ _)); exact BK182.out)) : gb184 ≠ gb182)); clear BK182; clear HB; have BK182 := n0_; have HB := n1_; have BK184 := n2_; have GW184 := n3_; have GE184 := n4_; have NB182_184 := n5_; have NB184_182 := n6_; clear n0_ n1_ n2_ n3_ n4_ n5_ n6_; clear hb hbox hg; have hnb10 := NB184_182.out; have hnc10 := NB182_184.out; have hcz11_0 : w9.cell? ⟨gb184, 0, none⟩ = some (.string (⟨#[]⟩ : ByteArray)) := (blk_cell BK184.out 0).trans rfl; have hcz11_1 : w9.cell? ⟨gb184, 1, none⟩ = some (.slice none 0 0) := (blk_cell BK184.out 1).trans rfl; have hcz11_2 : w9.cell? ⟨gb184, 2, none⟩ = some (.slice none 0 0) := (blk_cell BK184.out 2).trans rfl; have hcz11_3 : w9.cell? ⟨gb184, 3, none⟩ = some (.slice none 0 0) := (blk_cell BK184.out 3).trans rfl; have hcz11_4 : w9.cell? ⟨gb184, 4, none⟩ = some (.int .i64 0) := (blk_cell BK184.out 4).trans rfl; have hfz11_0 := blk_frozen BK184.out 0; have hfz11_1 := blk_frozen BK184.out 1; have hfz11_2 := blk_frozen BK184.out 2; have hfz11_3 := blk_frozen BK184.out 3; have hfz11_4 := blk_frozen BK184.out 4) | (go_at_call 57; (with_reducible refine (petrinetref09_Name.calls k ((rd_T58 l0_2 a1).f0) true _ A5.out).mono ?_); rintro e w' ⟨rfl, ⟨nd, rfl⟩⟩; (try first | exact ⟨rfl, _, World.drewN_drewN _ _ _⟩ | exact ⟨rfl, _, Eq.trans (World.drewN_drewN _ _ _) (congrArg (World.drewN _) (Nat.add_assoc _ _ _))⟩))); try go_wp2_with (first | ((with_reducible refine gate_dst (N := 2) rfl ?_); refine box_event ?hg (N := 2) ?hd (cs := #[.string a0_0, .slice A0_1 l0_1.length c0_1, .slice A0_2 l0_2.length c0_2]) (t := 25) ?hr ?_; (case hd => rfl); (case hg => rfl); (case hr => first | (go_simp; done) | (go_simp; rfl)); intro gb182 hg w7 hbox hb; have n0_ := Aside0.mk (below_step (by repeat (first | (with_reducible first | exact HB.out | apply below_alloc | apply pw_below_drewN | apply below_drew1) | exact HB.out)) hb); have n1_ := Aside0.mk (hbox); have n2_ := Aside0.mk ((by rw [hg]; exact (below_size (by repeat (first | (with_reducible first | exact HB.out | apply below_alloc | apply pw_below_drewN | apply below_drew1) | exact HB.out))) : w.heap.size ≤ gb182)); have n3_ := Aside0.mk ((by rw [hg]; exact (below_size (by repeat (first | (with_reducible first | exact HB.out | apply below_alloc | apply pw_below_drewN | apply below_drew1) | exact HB.out))) : w.heap.size ≤ gb182)); clear HB; have HB := n0_; have BK182 := n1_; have GW182 := n2_; have GE182 := n3_; clear n0_ n1_ n2_ n3_; clear hb hbox hg; have hcz8_0 : w7.cell? ⟨gb182, 0, none⟩ = some (.string a0_0) := (blk_cell BK182.out 0).trans rfl; have hcz8_1 : w7.cell? ⟨gb182, 1, none⟩ = some (.slice A0_1 l0_1.length c0_1) := (blk_cell BK182.out 1).trans rfl; have hcz8_2 : w7.cell? ⟨gb182, 2, none⟩ = some (.slice A0_2 l0_2.length c0_2) := (blk_cell BK182.out 2).trans rfl; have hfz8_0 := blk_frozen BK182.out 0; have hfz8_1 := blk_frozen BK182.out 1; have hfz8_2 := blk_frozen BK182.out 2; have p183 : 0 ≤ (a1 : Int) := of_decide_eq_true (by first | (with_reducible assumption) | assumption); have q183 : a1 < (l0_2.length : Int) := of_decide_eq_true (by first | (with_reducible assumption) | assumption); obtain ⟨ad183, A183_1, c183_1, A183_2, c183_2, A183_3, c183_3, e183, hx183_0, hx183_1, hx183_2, hx183_3, hx183_4, hl183_1, hi183_1, hl183_2, hi183_2, hl183_3, hi183_3⟩ := at_T58 HR0_2.out a1 p183 q183; cases e183; replace hx183_0 := (HB.out.cell (World.block_lt_of_cell? w _ hx183_0)).trans hx183_0; replace hx183_1 := (HB.out.cell (World.block_lt_of_cell? w _ hx183_1)).trans hx183_1; replace hx183_2 := (HB.out.cell (World.block_lt_of_cell? w _ hx183_2)).trans hx183_2; replace hx183_3 := (HB.out.cell (World.block_lt_of_cell? w _ hx183_3)).trans hx183_3; replace hx183_4 := (HB.out.cell (World.block_lt_of_cell? w _ hx183_4)).trans hx183_4; have HR183_1 := Aside0.mk hi183_1; have HC183_1 := Aside0.mk hl183_1; clear hi183_1 hl183_1; have HR183_2 := Aside0.mk hi183_2; have HC183_2 := Aside0.mk hl183_2; clear hi183_2 hl183_2; have HR183_3 := Aside0.mk hi183_3; have HC183_3 := Aside0.mk hl183_3; clear hi183_3 hl183_3; replace p183 := eq_true p183; replace q183 := eq_true q183) | ((with_reducible refine gate_dst (N := 5) rfl ?_); refine box_event ?hg (N := 5) ?hd (cs := #[.string (⟨#[]⟩ : ByteArray), .slice none 0 0, .slice none 0 0, .slice none 0 0, .int .i64 0]) (t := 58) ?hr ?_; (case hd => rfl); (case hg => rfl); (case hr => first | (go_simp; done) | (go_simp; rfl)); intro gb184 hg w9 hbox hb; have n0_ := Aside0.mk (blk_below (g := gb182) (o := .cells #[.string a0_0, .slice A0_1 l0_1.length c0_1, .slice (some ad183) l0_2.length c0_2] 25 (0, 0)) (by (with_reducible repeat (first | refine blk_drewN ?_ _ | refine blk_drew ?_ | refine blk_alloc ?_ _)); exact BK182.out) hb); have n1_ := Aside0.mk (below_step (by repeat (first | (with_reducible first | exact HB.out | apply below_alloc | apply pw_below_drewN | apply below_drew1 | refine below_set ?_ GE182.out) | exact HB.out)) hb); have n2_ := Aside0.mk (hbox); have n3_ := Aside0.mk ((by rw [hg]; exact (below_size (by repeat (first | (with_reducible first | exact HB.out | apply below_alloc | apply pw_below_drewN | apply below_drew1 | refine below_set ?_ GE182.out) | exact HB.out))) : w.heap.size ≤ gb184)); have n4_ := Aside0.mk ((by rw [hg]; exact (below_size (by repeat (first | (with_reducible first | exact HB.out | apply below_alloc | apply pw_below_drewN | apply below_drew1 | refine below_set ?_ GE182.out) | exact HB.out))) : w.heap.size ≤ gb184)); have n5_ := Aside0.mk ((by rw [hg]; exact Nat.ne_of_lt (blk_lt (g := gb182) (o := .cells #[.string a0_0, .slice A0_1 l0_1.length c0_1, .slice (some ad183) l0_2.length c0_2] 25 (0, 0)) (by (with_reducible repeat (first | refine blk_drewN ?_ _ | refine blk_drew ?_ | refine blk_alloc ?_ _)); exact BK182.out)) : gb182 ≠ gb184)); have n6_ := Aside0.mk ((by rw [hg]; exact Nat.ne_of_gt (blk_lt (g := gb182) (o := .cells #[.string a0_0, .slice A0_1 l0_1.length c0_1, .slice (some ad183) l0_2.length c0_2] 25 (0, 0)) (by (with_reducible repeat (first | refine blk_drewN ?_ _ | refine blk_drew ?_ | refine blk_alloc ?_ _)); exact BK182.out)) : gb184 ≠ gb182)); clear BK182; clear HB; have BK182 := n0_; have HB := n1_; have BK184 := n2_; have GW184 := n3_; have GE184 := n4_; have NB182_184 := n5_; have NB184_182 := n6_; clear n0_ n1_ n2_ n3_ n4_ n5_ n6_; clear hb hbox hg; have hnb10 := NB184_182.out; have hnc10 := NB182_184.out; have hcz11_0 : w9.cell? ⟨gb184, 0, none⟩ = some (.string (⟨#[]⟩ : ByteArray)) := (blk_cell BK184.out 0).trans rfl; have hcz11_1 : w9.cell? ⟨gb184, 1, none⟩ = some (.slice none 0 0) := (blk_cell BK184.out 1).trans rfl; have hcz11_2 : w9.cell? ⟨gb184, 2, none⟩ = some (.slice none 0 0) := (blk_cell BK184.out 2).trans rfl; have hcz11_3 : w9.cell? ⟨gb184, 3, none⟩ = some (.slice none 0 0) := (blk_cell BK184.out 3).trans rfl; have hcz11_4 : w9.cell? ⟨gb184, 4, none⟩ = some (.int .i64 0) := (blk_cell BK184.out 4).trans rfl; have hfz11_0 := blk_frozen BK184.out 0; have hfz11_1 := blk_frozen BK184.out 1; have hfz11_2 := blk_frozen BK184.out 2; have hfz11_3 := blk_frozen BK184.out 3; have hfz11_4 := blk_frozen BK184.out 4) | (go_at_call 57; (with_reducible refine (petrinetref09_Name.calls k ((rd_T58 l0_2 a1).f0) true _ A5.out).mono ?_); rintro e w' ⟨rfl, ⟨nd, rfl⟩⟩; (try first | exact ⟨rfl, _, World.drewN_drewN _ _ _⟩ | exact ⟨rfl, _, Eq.trans (World.drewN_drewN _ _ _) (congrArg (World.drewN _) (Nat.add_assoc _ _ _))⟩))))
        go_loopg [6] k (fun kq v6 w' => ∃ (x6_1 : Int), v6 = .int .i64 x6_1 ∧ Aside0 (petrinetref09_trans.l0 kq a1 x6_1 a0_0 l0_1 l0_2 ((rd_T58 l0_2 a1).f0) ((rd_T58 l0_2 a1).f1) ((rd_T58 l0_2 a1).f2) ((rd_T58 l0_2 a1).f3) ((rd_T58 l0_2 a1).f4) = some r) ∧ Aside0 (kq ≤ k) ∧ Aside0 (w'.heap[gb182]? = some (.cells #[.string a0_0, (.slice A0_1 l0_1.length c0_1), (.slice (some ad183) l0_2.length c0_2)] 25 (0, 0))) ∧ Aside0 (w'.heap[gb184]? = some (.cells #[.string ((rd_T58 l0_2 a1).f0), (.slice A183_1 ((rd_T58 l0_2 a1).f1).length c183_1), (.slice A183_2 ((rd_T58 l0_2 a1).f2).length c183_2), (.slice A183_3 ((rd_T58 l0_2 a1).f3).length c183_3), .int .i64 ((rd_T58 l0_2 a1).f4)] 58 (0, 0))) ∧ Aside0 (Below w.heap.size w w'))
        case atStart => exact ⟨(0), (by first | rfl | (simp; done) | (simp [*]; done)), H', ⟨Nat.le_refl _⟩, ⟨by (with_reducible repeat (first | refine blk_drewN ?_ _ | refine blk_drew ?_ | refine blk_alloc ?_ _)); refine blk_far ?_ NB182_184.out _; (with_reducible repeat (first | refine blk_drewN ?_ _ | refine blk_drew ?_ | refine blk_alloc ?_ _)); refine blk_far ?_ NB182_184.out _; (with_reducible repeat (first | refine blk_drewN ?_ _ | refine blk_drew ?_ | refine blk_alloc ?_ _)); refine blk_far ?_ NB182_184.out _; (with_reducible repeat (first | refine blk_drewN ?_ _ | refine blk_drew ?_ | refine blk_alloc ?_ _)); refine blk_far ?_ NB182_184.out _; (with_reducible repeat (first | refine blk_drewN ?_ _ | refine blk_drew ?_ | refine blk_alloc ?_ _)); refine blk_far ?_ NB182_184.out _; (with_reducible repeat (first | refine blk_drewN ?_ _ | refine blk_drew ?_ | refine blk_alloc ?_ _)); exact BK182.out⟩, ⟨by (with_reducible repeat (first | refine blk_drewN ?_ _ | refine blk_drew ?_ | refine blk_alloc ?_ _)); refine blk_put (cs := #[.string ((rd_T58 l0_2 a1).f0), .slice A183_1 ((rd_T58 l0_2 a1).f1).length c183_1, .slice A183_2 ((rd_T58 l0_2 a1).f2).length c183_2, .slice A183_3 ((rd_T58 l0_2 a1).f3).length c183_3, .int .i64 0]) ?_ 4 _ rfl; (with_reducible repeat (first | refine blk_drewN ?_ _ | refine blk_drew ?_ | refine blk_alloc ?_ _)); refine blk_put (cs := #[.string ((rd_T58 l0_2 a1).f0), .slice A183_1 ((rd_T58 l0_2 a1).f1).length c183_1, .slice A183_2 ((rd_T58 l0_2 a1).f2).length c183_2, .slice none 0 0, .int .i64 0]) ?_ 3 _ rfl; (with_reducible repeat (first | refine blk_drewN ?_ _ | refine blk_drew ?_ | refine blk_alloc ?_ _)); refine blk_put (cs := #[.string ((rd_T58 l0_2 a1).f0), .slice A183_1 ((rd_T58 l0_2 a1).f1).length c183_1, .slice none 0 0, .slice none 0 0, .int .i64 0]) ?_ 2 _ rfl; (with_reducible repeat (first | refine blk_drewN ?_ _ | refine blk_drew ?_ | refine blk_alloc ?_ _)); refine blk_put (cs := #[.string ((rd_T58 l0_2 a1).f0), .slice none 0 0, .slice none 0 0, .slice none 0 0, .int .i64 0]) ?_ 1 _ rfl; (with_reducible repeat (first | refine blk_drewN ?_ _ | refine blk_drew ?_ | refine blk_alloc ?_ _)); refine blk_put (cs := #[.string (⟨#[]⟩ : ByteArray), .slice none 0 0, .slice none 0 0, .slice none 0 0, .int .i64 0]) ?_ 0 _ rfl; (with_reducible repeat (first | refine blk_drewN ?_ _ | refine blk_drew ?_ | refine blk_alloc ?_ _)); exact BK184.out⟩, ⟨by repeat (first | (with_reducible first | exact HB.out | apply below_alloc | apply pw_below_drewN | apply below_drew1 | refine below_set ?_ GE182.out | refine below_set ?_ GE184.out) | exact HB.out)⟩⟩
        case round =>
          clear H'
          try clear c1
          try clear p1
          try clear q1
          try clear hx1
          try clear p2
          try clear c3
          try clear c3b0
          try clear c4
          try clear c4b0
          try clear c5
          try clear c6
          try clear c10
          try clear hcz11_0
          try clear hcz11_1
          try clear hcz11_2
          try clear hcz11_3
          try clear hcz11_4
          try clear hcz8_0
          try clear hcz8_1
          try clear hcz8_2
          try clear hfz11_0
          try clear hfz11_1
          try clear hfz11_2
          try clear hfz11_3
          try clear hfz11_4
          try clear hfz8_0
          try clear hfz8_1
          try clear hfz8_2
          try clear hx183_0
          try clear hx183_1
          try clear hx183_2
          try clear hx183_3
          try clear hx183_4
          try clear p183
          try clear q183
          obtain ⟨x6_1, rfl, HA, HK1, BK182, BK184, HB⟩ := hrel
          cases gk with
          | zero => exact absurd HA.out (by simp [petrinetref09_trans.l0])
          | succ k1 =>
            have H := HA.out
            clear HA
            simp only [petrinetref09_trans.l0] at H
            by_cases c12 : x6_1 < (l0_1.length : Int)
            · rw [if_pos c12] at H
              have c12b0 : decide (x6_1 < (l0_1.length : Int)) = true := decide_eq_true c12
              clear c12
              by_cases c13 : 0 ≤ x6_1
              · rw [if_pos c13] at H
                have c13b0 : decide (0 ≤ x6_1) = true := decide_eq_true c13
                clear c13
                by_cases c14 : ((rd_T55 l0_1 x6_1).f0).toList = ((rd_T58 l0_2 a1).f0).toList
                · rw [if_pos c14] at H
                  have c14b0 : (((rd_T55 l0_1 x6_1).f0).toList == ((rd_T58 l0_2 a1).f0).toList) = true := beq_iff_eq.mpr c14
                  have c14b1 : (((rd_T55 l0_1 x6_1).f0).toList != ((rd_T58 l0_2 a1).f0).toList) = false := bne_eq_false_iff_eq.mpr c14
                  clear c14
                  obtain rfl := Option.some.inj H
                  have hnb15 := NB182_184.out
                  have hnc15 := NB184_182.out
                  have hcz16_0 : wr.cell? ⟨gb182, 0, none⟩ = some (.string a0_0) := (blk_cell BK182.out 0).trans rfl
                  have hcz16_1 : wr.cell? ⟨gb182, 1, none⟩ = some (.slice A0_1 l0_1.length c0_1) := (blk_cell BK182.out 1).trans rfl
                  have hcz16_2 : wr.cell? ⟨gb182, 2, none⟩ = some (.slice (some ad183) l0_2.length c0_2) := (blk_cell BK182.out 2).trans rfl
                  have hfz16_0 := blk_frozen BK182.out 0
                  have hfz16_1 := blk_frozen BK182.out 1
                  have hfz16_2 := blk_frozen BK182.out 2
                  have p186 : 0 ≤ (x6_1 : Int) := of_decide_eq_true (by first | (with_reducible assumption) | assumption)
                  have q186 : x6_1 < (l0_1.length : Int) := of_decide_eq_true (by first | (with_reducible assumption) | assumption)
                  obtain ⟨ad186, e186, hx186_0, hx186_1, hx186_2⟩ := at_T55 HR0_1.out x6_1 p186 q186
                  cases e186
                  replace hx186_0 := (HB.out.cell (World.block_lt_of_cell? w _ hx186_0)).trans hx186_0
                  replace hx186_1 := (HB.out.cell (World.block_lt_of_cell? w _ hx186_1)).trans hx186_1
                  replace hx186_2 := (HB.out.cell (World.block_lt_of_cell? w _ hx186_2)).trans hx186_2
                  replace p186 := eq_true p186
                  replace q186 := eq_true q186
                  have hcz17_0 : wr.cell? ⟨gb184, 0, none⟩ = some (.string ((rd_T58 l0_2 a1).f0)) := (blk_cell BK184.out 0).trans rfl
                  have hcz17_1 : wr.cell? ⟨gb184, 1, none⟩ = some (.slice A183_1 ((rd_T58 l0_2 a1).f1).length c183_1) := (blk_cell BK184.out 1).trans rfl
                  have hcz17_2 : wr.cell? ⟨gb184, 2, none⟩ = some (.slice A183_2 ((rd_T58 l0_2 a1).f2).length c183_2) := (blk_cell BK184.out 2).trans rfl
                  have hcz17_3 : wr.cell? ⟨gb184, 3, none⟩ = some (.slice A183_3 ((rd_T58 l0_2 a1).f3).length c183_3) := (blk_cell BK184.out 3).trans rfl
                  have hcz17_4 : wr.cell? ⟨gb184, 4, none⟩ = some (.int .i64 ((rd_T58 l0_2 a1).f4)) := (blk_cell BK184.out 4).trans rfl
                  have hfz17_0 := blk_frozen BK184.out 0
                  have hfz17_1 := blk_frozen BK184.out 1
                  have hfz17_2 := blk_frozen BK184.out 2
                  have hfz17_3 := blk_frozen BK184.out 3
                  have hfz17_4 := blk_frozen BK184.out 4
                  go_wp2
                  repeat (go_quiet (fail); try go_wp2)
                  go_ret
                  exact ⟨by first | rfl | (simp [errW_none, errW_some] <;> rfl) | (simp [*, errW_none, errW_some] <;> rfl), by repeat (first | (with_reducible first | exact HB.out | apply below_alloc | apply pw_below_drewN | apply below_drew1 | refine below_set ?_ GE182.out | refine below_set ?_ GE184.out) | exact HB.out)⟩
                · rw [if_neg c14] at H
                  have c14b0 : (((rd_T55 l0_1 x6_1).f0).toList == ((rd_T58 l0_2 a1).f0).toList) = false := beq_eq_false_iff_ne.mpr c14
                  have c14b1 : (((rd_T55 l0_1 x6_1).f0).toList != ((rd_T58 l0_2 a1).f0).toList) = true := bne_iff_ne.mpr c14
                  have H' := Aside0.mk H
                  clear H
                  have hnb18 := NB182_184.out
                  have hnc18 := NB184_182.out
                  have hcz19_0 : wr.cell? ⟨gb182, 0, none⟩ = some (.string a0_0) := (blk_cell BK182.out 0).trans rfl
                  have hcz19_1 : wr.cell? ⟨gb182, 1, none⟩ = some (.slice A0_1 l0_1.length c0_1) := (blk_cell BK182.out 1).trans rfl
                  have hcz19_2 : wr.cell? ⟨gb182, 2, none⟩ = some (.slice (some ad183) l0_2.length c0_2) := (blk_cell BK182.out 2).trans rfl
                  have hfz19_0 := blk_frozen BK182.out 0
                  have hfz19_1 := blk_frozen BK182.out 1
                  have hfz19_2 := blk_frozen BK182.out 2
                  have p186 : 0 ≤ (x6_1 : Int) := of_decide_eq_true (by first | (with_reducible assumption) | assumption)
                  have q186 : x6_1 < (l0_1.length : Int) := of_decide_eq_true (by first | (with_reducible assumption) | assumption)
                  obtain ⟨ad186, e186, hx186_0, hx186_1, hx186_2⟩ := at_T55 HR0_1.out x6_1 p186 q186
                  cases e186
                  replace hx186_0 := (HB.out.cell (World.block_lt_of_cell? w _ hx186_0)).trans hx186_0
                  replace hx186_1 := (HB.out.cell (World.block_lt_of_cell? w _ hx186_1)).trans hx186_1
                  replace hx186_2 := (HB.out.cell (World.block_lt_of_cell? w _ hx186_2)).trans hx186_2
                  replace p186 := eq_true p186
                  replace q186 := eq_true q186
                  have hcz20_0 : wr.cell? ⟨gb184, 0, none⟩ = some (.string ((rd_T58 l0_2 a1).f0)) := (blk_cell BK184.out 0).trans rfl
                  have hcz20_1 : wr.cell? ⟨gb184, 1, none⟩ = some (.slice A183_1 ((rd_T58 l0_2 a1).f1).length c183_1) := (blk_cell BK184.out 1).trans rfl
                  have hcz20_2 : wr.cell? ⟨gb184, 2, none⟩ = some (.slice A183_2 ((rd_T58 l0_2 a1).f2).length c183_2) := (blk_cell BK184.out 2).trans rfl
                  have hcz20_3 : wr.cell? ⟨gb184, 3, none⟩ = some (.slice A183_3 ((rd_T58 l0_2 a1).f3).length c183_3) := (blk_cell BK184.out 3).trans rfl
                  have hcz20_4 : wr.cell? ⟨gb184, 4, none⟩ = some (.int .i64 ((rd_T58 l0_2 a1).f4)) := (blk_cell BK184.out 4).trans rfl
                  have hfz20_0 := blk_frozen BK184.out 0
                  have hfz20_1 := blk_frozen BK184.out 1
                  have hfz20_2 := blk_frozen BK184.out 2
                  have hfz20_3 := blk_frozen BK184.out 3
                  have hfz20_4 := blk_frozen BK184.out 4
                  go_wp2
                  repeat (go_quiet (fail); try go_wp2)
                  go_roundg k1
                  case measure => have := HK1.out; omega
                  case rel => exact ⟨(wrap64 (x6_1 + 1)), (by first | rfl | (simp; done) | (simp [*]; done)), H', ⟨by have := HK1.out; omega⟩, ⟨by (with_reducible repeat (first | refine blk_drewN ?_ _ | refine blk_drew ?_ | refine blk_alloc ?_ _)); exact BK182.out⟩, ⟨by (with_reducible repeat (first | refine blk_drewN ?_ _ | refine blk_drew ?_ | refine blk_alloc ?_ _)); exact BK184.out⟩, ⟨by repeat (first | (with_reducible first | exact HB.out | apply below_alloc | apply pw_below_drewN | apply below_drew1 | refine below_set ?_ GE182.out | refine below_set ?_ GE184.out) | exact HB.out)⟩⟩
              · rw [if_neg c13] at H
                exact absurd H (by simp)
            · rw [if_neg c12] at H
              have c12b0 : decide (x6_1 < (l0_1.length : Int)) = false := decide_eq_false c12
              clear c12
              have H' := Aside0.mk H
              clear H
              have hnb21 := NB182_184.out
              have hnc21 := NB184_182.out
              have hcz22_0 : wr.cell? ⟨gb182, 0, none⟩ = some (.string a0_0) := (blk_cell BK182.out 0).trans rfl
              have hcz22_1 : wr.cell? ⟨gb182, 1, none⟩ = some (.slice A0_1 l0_1.length c0_1) := (blk_cell BK182.out 1).trans rfl
              have hcz22_2 : wr.cell? ⟨gb182, 2, none⟩ = some (.slice (some ad183) l0_2.length c0_2) := (blk_cell BK182.out 2).trans rfl
              have hfz22_0 := blk_frozen BK182.out 0
              have hfz22_1 := blk_frozen BK182.out 1
              have hfz22_2 := blk_frozen BK182.out 2
              go_wp2
              repeat (go_quiet (fail); try go_wp2)
              go_loopg [7] k1 (fun kq v7 w' => ∃ (x7_2 : Int), v7 = .int .i64 x7_2 ∧ Aside0 (petrinetref09_trans.l1 kq a1 x7_2 a0_0 l0_1 l0_2 ((rd_T58 l0_2 a1).f0) ((rd_T58 l0_2 a1).f1) ((rd_T58 l0_2 a1).f2) ((rd_T58 l0_2 a1).f3) ((rd_T58 l0_2 a1).f4) = some r) ∧ Aside0 (kq ≤ k1) ∧ Aside0 (w'.heap[gb182]? = some (.cells #[.string a0_0, (.slice A0_1 l0_1.length c0_1), (.slice (some ad183) l0_2.length c0_2)] 25 (0, 0))) ∧ Aside0 (w'.heap[gb184]? = some (.cells #[.string ((rd_T58 l0_2 a1).f0), (.slice A183_1 ((rd_T58 l0_2 a1).f1).length c183_1), (.slice A183_2 ((rd_T58 l0_2 a1).f2).length c183_2), (.slice A183_3 ((rd_T58 l0_2 a1).f3).length c183_3), .int .i64 ((rd_T58 l0_2 a1).f4)] 58 (0, 0))) ∧ Aside0 (Below w.heap.size w w'))
              case atStart => exact ⟨(0), (by first | rfl | (simp; done) | (simp [*]; done)), H', ⟨Nat.le_refl _⟩, ⟨by (with_reducible repeat (first | refine blk_drewN ?_ _ | refine blk_drew ?_ | refine blk_alloc ?_ _)); exact BK182.out⟩, ⟨by (with_reducible repeat (first | refine blk_drewN ?_ _ | refine blk_drew ?_ | refine blk_alloc ?_ _)); exact BK184.out⟩, ⟨by repeat (first | (with_reducible first | exact HB.out | apply below_alloc | apply pw_below_drewN | apply below_drew1 | refine below_set ?_ GE182.out | refine below_set ?_ GE184.out) | exact HB.out)⟩⟩
              case round =>
                clear H'
                try clear c1
                try clear p1
                try clear q1
                try clear hx1
                try clear c2
                try clear p2
                try clear c3
                try clear c3b0
                try clear c4
                try clear c4b0
                try clear c5
                try clear c6
                try clear p6
                try clear c10
                try clear c12
                try clear c12b0
                try clear c13
                try clear c13b0
                try clear c14
                try clear c14b0
                try clear c14b1
                try clear c15
                try clear c18
                try clear p18
                try clear q18
                try clear hx18
                try clear c21
                try clear hcz11_0
                try clear hcz11_1
                try clear hcz11_2
                try clear hcz11_3
                try clear hcz11_4
                try clear hcz16_0
                try clear hcz16_1
                try clear hcz16_2
                try clear hcz17_0
                try clear hcz17_1
                try clear hcz17_2
                try clear hcz17_3
                try clear hcz17_4
                try clear hcz19_0
                try clear hcz19_1
                try clear hcz19_2
                try clear hcz20_0
                try clear hcz20_1
                try clear hcz20_2
                try clear hcz20_3
                try clear hcz20_4
                try clear hcz22_0
                try clear hcz22_1
                try clear hcz22_2
                try clear hcz8_0
                try clear hcz8_1
                try clear hcz8_2
                try clear hfz11_0
                try clear hfz11_1
                try clear hfz11_2
                try clear hfz11_3
                try clear hfz11_4
                try clear hfz16_0
                try clear hfz16_1
                try clear hfz16_2
                try clear hfz17_0
                try clear hfz17_1
                try clear hfz17_2
                try clear hfz17_3
                try clear hfz17_4
                try clear hfz19_0
                try clear hfz19_1
                try clear hfz19_2
                try clear hfz20_0
                try clear hfz20_1
                try clear hfz20_2
                try clear hfz20_3
                try clear hfz20_4
                try clear hfz22_0
                try clear hfz22_1
                try clear hfz22_2
                try clear hfz8_0
                try clear hfz8_1
                try clear hfz8_2
                try clear hx183_0
                try clear hx183_1
                try clear hx183_2
                try clear hx183_3
                try clear hx183_4
                try clear hx186_0
                try clear hx186_1
                try clear hx186_2
                try clear p1
                try clear p183
                try clear p186
                try clear p2
                try clear q1
                try clear q183
                try clear q186
                obtain ⟨x7_2, rfl, HA, HK2, BK182, BK184, HB⟩ := hrel
                cases gk with
                | zero => exact absurd HA.out (by simp [petrinetref09_trans.l1])
                | succ k2 =>
                  have H := HA.out
                  clear HA
                  simp only [petrinetref09_trans.l1] at H
                  by_cases c23 : x7_2 < a1
                  · rw [if_pos c23] at H
                    have c23b0 : decide (x7_2 < a1) = true := decide_eq_true c23
                    clear c23
                    by_cases c24 : 0 ≤ x7_2
                    · rw [if_pos c24] at H
                      have c24b0 : decide (0 ≤ x7_2) = true := decide_eq_true c24
                      clear c24
                      by_cases c25 : x7_2 < (l0_2.length : Int)
                      · rw [if_pos c25] at H
                        have c25b0 : decide (x7_2 < (l0_2.length : Int)) = true := decide_eq_true c25
                        clear c25
                        by_cases c26 : ((rd_T58 l0_2 x7_2).f0).toList = ((rd_T58 l0_2 a1).f0).toList
                        · rw [if_pos c26] at H
                          have c26b0 : (((rd_T58 l0_2 x7_2).f0).toList == ((rd_T58 l0_2 a1).f0).toList) = true := beq_iff_eq.mpr c26
                          have c26b1 : (((rd_T58 l0_2 x7_2).f0).toList != ((rd_T58 l0_2 a1).f0).toList) = false := bne_eq_false_iff_eq.mpr c26
                          clear c26
                          obtain rfl := Option.some.inj H
                          have hnb27 := NB182_184.out
                          have hnc27 := NB184_182.out
                          have hcz28_0 : wr.cell? ⟨gb182, 0, none⟩ = some (.string a0_0) := (blk_cell BK182.out 0).trans rfl
                          have hcz28_1 : wr.cell? ⟨gb182, 1, none⟩ = some (.slice A0_1 l0_1.length c0_1) := (blk_cell BK182.out 1).trans rfl
                          have hcz28_2 : wr.cell? ⟨gb182, 2, none⟩ = some (.slice (some ad183) l0_2.length c0_2) := (blk_cell BK182.out 2).trans rfl
                          have hfz28_0 := blk_frozen BK182.out 0
                          have hfz28_1 := blk_frozen BK182.out 1
                          have hfz28_2 := blk_frozen BK182.out 2
                          have p187 : 0 ≤ (x7_2 : Int) := of_decide_eq_true (by first | (with_reducible assumption) | assumption)
                          have q187 : x7_2 < (l0_2.length : Int) := of_decide_eq_true (by first | (with_reducible assumption) | assumption)
                          obtain ⟨ad187, A187_1, c187_1, A187_2, c187_2, A187_3, c187_3, e187, hx187_0, hx187_1, hx187_2, hx187_3, hx187_4, hl187_1, hi187_1, hl187_2, hi187_2, hl187_3, hi187_3⟩ := at_T58 HR0_2.out x7_2 p187 q187
                          obtain rfl : ad183 = ad187 := (by injection e187)
                          replace hx187_0 := (HB.out.cell (World.block_lt_of_cell? w _ hx187_0)).trans hx187_0
                          replace hx187_1 := (HB.out.cell (World.block_lt_of_cell? w _ hx187_1)).trans hx187_1
                          replace hx187_2 := (HB.out.cell (World.block_lt_of_cell? w _ hx187_2)).trans hx187_2
                          replace hx187_3 := (HB.out.cell (World.block_lt_of_cell? w _ hx187_3)).trans hx187_3
                          replace hx187_4 := (HB.out.cell (World.block_lt_of_cell? w _ hx187_4)).trans hx187_4
                          have HR187_1 := Aside0.mk hi187_1
                          have HC187_1 := Aside0.mk hl187_1
                          clear hi187_1 hl187_1
                          have HR187_2 := Aside0.mk hi187_2
                          have HC187_2 := Aside0.mk hl187_2
                          clear hi187_2 hl187_2
                          have HR187_3 := Aside0.mk hi187_3
                          have HC187_3 := Aside0.mk hl187_3
                          clear hi187_3 hl187_3
                          replace p187 := eq_true p187
                          replace q187 := eq_true q187
                          have hcz29_0 : wr.cell? ⟨gb184, 0, none⟩ = some (.string ((rd_T58 l0_2 a1).f0)) := (blk_cell BK184.out 0).trans rfl
                          have hcz29_1 : wr.cell? ⟨gb184, 1, none⟩ = some (.slice A183_1 ((rd_T58 l0_2 a1).f1).length c183_1) := (blk_cell BK184.out 1).trans rfl
                          have hcz29_2 : wr.cell? ⟨gb184, 2, none⟩ = some (.slice A183_2 ((rd_T58 l0_2 a1).f2).length c183_2) := (blk_cell BK184.out 2).trans rfl
                          have hcz29_3 : wr.cell? ⟨gb184, 3, none⟩ = some (.slice A183_3 ((rd_T58 l0_2 a1).f3).length c183_3) := (blk_cell BK184.out 3).trans rfl
                          have hcz29_4 : wr.cell? ⟨gb184, 4, none⟩ = some (.int .i64 ((rd_T58 l0_2 a1).f4)) := (blk_cell BK184.out 4).trans rfl
                          have hfz29_0 := blk_frozen BK184.out 0
                          have hfz29_1 := blk_frozen BK184.out 1
                          have hfz29_2 := blk_frozen BK184.out 2
                          have hfz29_3 := blk_frozen BK184.out 3
                          have hfz29_4 := blk_frozen BK184.out 4
                          go_wp2
                          repeat (go_quiet (fail); try go_wp2)
                          go_ret
                          exact ⟨by first | rfl | (simp [errW_none, errW_some] <;> rfl) | (simp [*, errW_none, errW_some] <;> rfl), by repeat (first | (with_reducible first | exact HB.out | apply below_alloc | apply pw_below_drewN | apply below_drew1 | refine below_set ?_ GE182.out | refine below_set ?_ GE184.out) | exact HB.out)⟩
                        · rw [if_neg c26] at H
                          have c26b0 : (((rd_T58 l0_2 x7_2).f0).toList == ((rd_T58 l0_2 a1).f0).toList) = false := beq_eq_false_iff_ne.mpr c26
                          have c26b1 : (((rd_T58 l0_2 x7_2).f0).toList != ((rd_T58 l0_2 a1).f0).toList) = true := bne_iff_ne.mpr c26
                          have H' := Aside0.mk H
                          clear H
                          have hnb30 := NB182_184.out
                          have hnc30 := NB184_182.out
                          have hcz31_0 : wr.cell? ⟨gb182, 0, none⟩ = some (.string a0_0) := (blk_cell BK182.out 0).trans rfl
                          have hcz31_1 : wr.cell? ⟨gb182, 1, none⟩ = some (.slice A0_1 l0_1.length c0_1) := (blk_cell BK182.out 1).trans rfl
                          have hcz31_2 : wr.cell? ⟨gb182, 2, none⟩ = some (.slice (some ad183) l0_2.length c0_2) := (blk_cell BK182.out 2).trans rfl
                          have hfz31_0 := blk_frozen BK182.out 0
                          have hfz31_1 := blk_frozen BK182.out 1
                          have hfz31_2 := blk_frozen BK182.out 2
                          have p187 : 0 ≤ (x7_2 : Int) := of_decide_eq_true (by first | (with_reducible assumption) | assumption)
                          have q187 : x7_2 < (l0_2.length : Int) := of_decide_eq_true (by first | (with_reducible assumption) | assumption)
                          obtain ⟨ad187, A187_1, c187_1, A187_2, c187_2, A187_3, c187_3, e187, hx187_0, hx187_1, hx187_2, hx187_3, hx187_4, hl187_1, hi187_1, hl187_2, hi187_2, hl187_3, hi187_3⟩ := at_T58 HR0_2.out x7_2 p187 q187
                          obtain rfl : ad183 = ad187 := (by injection e187)
                          replace hx187_0 := (HB.out.cell (World.block_lt_of_cell? w _ hx187_0)).trans hx187_0
                          replace hx187_1 := (HB.out.cell (World.block_lt_of_cell? w _ hx187_1)).trans hx187_1
                          replace hx187_2 := (HB.out.cell (World.block_lt_of_cell? w _ hx187_2)).trans hx187_2
                          replace hx187_3 := (HB.out.cell (World.block_lt_of_cell? w _ hx187_3)).trans hx187_3
                          replace hx187_4 := (HB.out.cell (World.block_lt_of_cell? w _ hx187_4)).trans hx187_4
                          have HR187_1 := Aside0.mk hi187_1
                          have HC187_1 := Aside0.mk hl187_1
                          clear hi187_1 hl187_1
                          have HR187_2 := Aside0.mk hi187_2
                          have HC187_2 := Aside0.mk hl187_2
                          clear hi187_2 hl187_2
                          have HR187_3 := Aside0.mk hi187_3
                          have HC187_3 := Aside0.mk hl187_3
                          clear hi187_3 hl187_3
                          replace p187 := eq_true p187
                          replace q187 := eq_true q187
                          have hcz32_0 : wr.cell? ⟨gb184, 0, none⟩ = some (.string ((rd_T58 l0_2 a1).f0)) := (blk_cell BK184.out 0).trans rfl
                          have hcz32_1 : wr.cell? ⟨gb184, 1, none⟩ = some (.slice A183_1 ((rd_T58 l0_2 a1).f1).length c183_1) := (blk_cell BK184.out 1).trans rfl
                          have hcz32_2 : wr.cell? ⟨gb184, 2, none⟩ = some (.slice A183_2 ((rd_T58 l0_2 a1).f2).length c183_2) := (blk_cell BK184.out 2).trans rfl
                          have hcz32_3 : wr.cell? ⟨gb184, 3, none⟩ = some (.slice A183_3 ((rd_T58 l0_2 a1).f3).length c183_3) := (blk_cell BK184.out 3).trans rfl
                          have hcz32_4 : wr.cell? ⟨gb184, 4, none⟩ = some (.int .i64 ((rd_T58 l0_2 a1).f4)) := (blk_cell BK184.out 4).trans rfl
                          have hfz32_0 := blk_frozen BK184.out 0
                          have hfz32_1 := blk_frozen BK184.out 1
                          have hfz32_2 := blk_frozen BK184.out 2
                          have hfz32_3 := blk_frozen BK184.out 3
                          have hfz32_4 := blk_frozen BK184.out 4
                          go_wp2
                          repeat (go_quiet (fail); try go_wp2)
                          go_roundg k2
                          case measure => have := HK1.out; have := HK2.out; omega
                          case rel => exact ⟨(wrap64 (x7_2 + 1)), (by first | rfl | (simp; done) | (simp [*]; done)), H', ⟨by have := HK1.out; have := HK2.out; omega⟩, ⟨by (with_reducible repeat (first | refine blk_drewN ?_ _ | refine blk_drew ?_ | refine blk_alloc ?_ _)); exact BK182.out⟩, ⟨by (with_reducible repeat (first | refine blk_drewN ?_ _ | refine blk_drew ?_ | refine blk_alloc ?_ _)); exact BK184.out⟩, ⟨by repeat (first | (with_reducible first | exact HB.out | apply below_alloc | apply pw_below_drewN | apply below_drew1 | refine below_set ?_ GE182.out | refine below_set ?_ GE184.out) | exact HB.out)⟩⟩
                      · rw [if_neg c25] at H
                        exact absurd H (by simp)
                    · rw [if_neg c24] at H
                      exact absurd H (by simp)
                  · rw [if_neg c23] at H
                    have c23b0 : decide (x7_2 < a1) = false := decide_eq_false c23
                    clear c23
                    have HC33 := Aside0.mk H
                    clear H
                    go_upto_region 14 with (fail)
                    repeat (go_quiet (fail); go_upto_region 14 with (fail))
                    go_cut [56] (fun v56 wc => ∃ (kq : Nat) (x56_32 : Bool), v56 = .bool x56_32 ∧ Aside0 (petrinetref09_trans.j2 kq x56_32 a0_0 l0_1 l0_2 ((rd_T58 l0_2 a1).f0) ((rd_T58 l0_2 a1).f1) ((rd_T58 l0_2 a1).f2) ((rd_T58 l0_2 a1).f3) ((rd_T58 l0_2 a1).f4) = some r) ∧ Aside0 (kq ≤ k2) ∧ Aside0 (wc.heap[gb182]? = some (.cells #[.string a0_0, (.slice A0_1 l0_1.length c0_1), (.slice (some ad183) l0_2.length c0_2)] 25 (0, 0))) ∧ Aside0 (wc.heap[gb184]? = some (.cells #[.string ((rd_T58 l0_2 a1).f0), (.slice A183_1 ((rd_T58 l0_2 a1).f1).length c183_1), (.slice A183_2 ((rd_T58 l0_2 a1).f2).length c183_2), (.slice A183_3 ((rd_T58 l0_2 a1).f3).length c183_3), .int .i64 ((rd_T58 l0_2 a1).f4)] 58 (0, 0))) ∧ Aside0 (Below w.heap.size w wc))
                    case first =>
                      have H := HC33.out
                      clear HC33
                      by_cases c34 : ((rd_T58 l0_2 a1).f4) < 0
                      · rw [if_pos c34] at H
                        have c34b0 : decide (((rd_T58 l0_2 a1).f4) < 0) = true := decide_eq_true c34
                        clear c34
                        (first | rw [c34b0] | (simp only [i64_w, i32_w]; rw [c34b0]) | skip)
                        have H' := Aside0.mk H
                        clear H
                        have hnb35 := NB184_182.out
                        have hnc35 := NB182_184.out
                        have hcz36_0 : wr.cell? ⟨gb184, 0, none⟩ = some (.string ((rd_T58 l0_2 a1).f0)) := (blk_cell BK184.out 0).trans rfl
                        have hcz36_1 : wr.cell? ⟨gb184, 1, none⟩ = some (.slice A183_1 ((rd_T58 l0_2 a1).f1).length c183_1) := (blk_cell BK184.out 1).trans rfl
                        have hcz36_2 : wr.cell? ⟨gb184, 2, none⟩ = some (.slice A183_2 ((rd_T58 l0_2 a1).f2).length c183_2) := (blk_cell BK184.out 2).trans rfl
                        have hcz36_3 : wr.cell? ⟨gb184, 3, none⟩ = some (.slice A183_3 ((rd_T58 l0_2 a1).f3).length c183_3) := (blk_cell BK184.out 3).trans rfl
                        have hcz36_4 : wr.cell? ⟨gb184, 4, none⟩ = some (.int .i64 ((rd_T58 l0_2 a1).f4)) := (blk_cell BK184.out 4).trans rfl
                        have hfz36_0 := blk_frozen BK184.out 0
                        have hfz36_1 := blk_frozen BK184.out 1
                        have hfz36_2 := blk_frozen BK184.out 2
                        have hfz36_3 := blk_frozen BK184.out 3
                        have hfz36_4 := blk_frozen BK184.out 4
                        go_wp2
                        repeat (go_quiet (fail); try go_wp2)
                        go_meet
                        case rel => exact ⟨_, (true), (by first | rfl | (simp; done) | (simp [*]; done)), H', ⟨by have := HK1.out; have := HK2.out; first | omega | exact Nat.le_refl _⟩, ⟨by (with_reducible repeat (first | refine blk_drewN ?_ _ | refine blk_drew ?_ | refine blk_alloc ?_ _)); exact BK182.out⟩, ⟨by (with_reducible repeat (first | refine blk_drewN ?_ _ | refine blk_drew ?_ | refine blk_alloc ?_ _)); exact BK184.out⟩, ⟨by repeat (first | (with_reducible first | exact HB.out | apply below_alloc | apply pw_below_drewN | apply below_drew1 | refine below_set ?_ GE182.out | refine below_set ?_ GE184.out) | exact HB.out)⟩⟩
                      · rw [if_neg c34] at H
                        have c34b0 : decide (((rd_T58 l0_2 a1).f4) < 0) = false := decide_eq_false c34
                        clear c34
                        (first | rw [c34b0] | (simp only [i64_w, i32_w]; rw [c34b0]) | skip)
                        have H' := Aside0.mk H
                        clear H
                        have hnb37 := NB184_182.out
                        have hnc37 := NB182_184.out
                        have hcz38_0 : wr.cell? ⟨gb184, 0, none⟩ = some (.string ((rd_T58 l0_2 a1).f0)) := (blk_cell BK184.out 0).trans rfl
                        have hcz38_1 : wr.cell? ⟨gb184, 1, none⟩ = some (.slice A183_1 ((rd_T58 l0_2 a1).f1).length c183_1) := (blk_cell BK184.out 1).trans rfl
                        have hcz38_2 : wr.cell? ⟨gb184, 2, none⟩ = some (.slice A183_2 ((rd_T58 l0_2 a1).f2).length c183_2) := (blk_cell BK184.out 2).trans rfl
                        have hcz38_3 : wr.cell? ⟨gb184, 3, none⟩ = some (.slice A183_3 ((rd_T58 l0_2 a1).f3).length c183_3) := (blk_cell BK184.out 3).trans rfl
                        have hcz38_4 : wr.cell? ⟨gb184, 4, none⟩ = some (.int .i64 ((rd_T58 l0_2 a1).f4)) := (blk_cell BK184.out 4).trans rfl
                        have hfz38_0 := blk_frozen BK184.out 0
                        have hfz38_1 := blk_frozen BK184.out 1
                        have hfz38_2 := blk_frozen BK184.out 2
                        have hfz38_3 := blk_frozen BK184.out 3
                        have hfz38_4 := blk_frozen BK184.out 4
                        go_wp2
                        repeat (go_quiet (fail); try go_wp2)
                        go_meet
                        case rel => exact ⟨_, (decide (((rd_T58 l0_2 a1).f4) > 9)), (by first | rfl | (simp; done) | (simp [*]; done)), H', ⟨by have := HK1.out; have := HK2.out; first | omega | exact Nat.le_refl _⟩, ⟨by (with_reducible repeat (first | refine blk_drewN ?_ _ | refine blk_drew ?_ | refine blk_alloc ?_ _)); exact BK182.out⟩, ⟨by (with_reducible repeat (first | refine blk_drewN ?_ _ | refine blk_drew ?_ | refine blk_alloc ?_ _)); exact BK184.out⟩, ⟨by repeat (first | (with_reducible first | exact HB.out | apply below_alloc | apply pw_below_drewN | apply below_drew1 | refine below_set ?_ GE182.out | refine below_set ?_ GE184.out) | exact HB.out)⟩⟩
                    case rest =>
                      clear HC33
                      try clear c1
                      try clear p1
                      try clear q1
                      try clear hx1
                      try clear c2
                      try clear p2
                      try clear c3
                      try clear c3b0
                      try clear c4
                      try clear c4b0
                      try clear c5
                      try clear c6
                      try clear p6
                      try clear c10
                      try clear c12
                      try clear c12b0
                      try clear c13
                      try clear c13b0
                      try clear c14
                      try clear c14b0
                      try clear c14b1
                      try clear c15
                      try clear c18
                      try clear p18
                      try clear q18
                      try clear hx18
                      try clear c21
                      try clear c23
                      try clear c23b0
                      try clear c24
                      try clear c24b0
                      try clear c25
                      try clear c25b0
                      try clear c26
                      try clear c26b0
                      try clear c26b1
                      try clear c27
                      try clear c30
                      try clear c34
                      try clear c34b0
                      try clear c35
                      try clear c37
                      try clear hcz11_0
                      try clear hcz11_1
                      try clear hcz11_2
                      try clear hcz11_3
                      try clear hcz11_4
                      try clear hcz16_0
                      try clear hcz16_1
                      try clear hcz16_2
                      try clear hcz17_0
                      try clear hcz17_1
                      try clear hcz17_2
                      try clear hcz17_3
                      try clear hcz17_4
                      try clear hcz19_0
                      try clear hcz19_1
                      try clear hcz19_2
                      try clear hcz20_0
                      try clear hcz20_1
                      try clear hcz20_2
                      try clear hcz20_3
                      try clear hcz20_4
                      try clear hcz22_0
                      try clear hcz22_1
                      try clear hcz22_2
                      try clear hcz28_0
                      try clear hcz28_1
                      try clear hcz28_2
                      try clear hcz29_0
                      try clear hcz29_1
                      try clear hcz29_2
                      try clear hcz29_3
                      try clear hcz29_4
                      try clear hcz31_0
                      try clear hcz31_1
                      try clear hcz31_2
                      try clear hcz32_0
                      try clear hcz32_1
                      try clear hcz32_2
                      try clear hcz32_3
                      try clear hcz32_4
                      try clear hcz36_0
                      try clear hcz36_1
                      try clear hcz36_2
                      try clear hcz36_3
                      try clear hcz36_4
                      try clear hcz38_0
                      try clear hcz38_1
                      try clear hcz38_2
                      try clear hcz38_3
                      try clear hcz38_4
                      try clear hcz8_0
                      try clear hcz8_1
                      try clear hcz8_2
                      try clear hfz11_0
                      try clear hfz11_1
                      try clear hfz11_2
                      try clear hfz11_3
                      try clear hfz11_4
                      try clear hfz16_0
                      try clear hfz16_1
                      try clear hfz16_2
                      try clear hfz17_0
                      try clear hfz17_1
                      try clear hfz17_2
                      try clear hfz17_3
                      try clear hfz17_4
                      try clear hfz19_0
                      try clear hfz19_1
                      try clear hfz19_2
                      try clear hfz20_0
                      try clear hfz20_1
                      try clear hfz20_2
                      try clear hfz20_3
                      try clear hfz20_4
                      try clear hfz22_0
                      try clear hfz22_1
                      try clear hfz22_2
                      try clear hfz28_0
                      try clear hfz28_1
                      try clear hfz28_2
                      try clear hfz29_0
                      try clear hfz29_1
                      try clear hfz29_2
                      try clear hfz29_3
                      try clear hfz29_4
                      try clear hfz31_0
                      try clear hfz31_1
                      try clear hfz31_2
                      try clear hfz32_0
                      try clear hfz32_1
                      try clear hfz32_2
                      try clear hfz32_3
                      try clear hfz32_4
                      try clear hfz36_0
                      try clear hfz36_1
                      try clear hfz36_2
                      try clear hfz36_3
                      try clear hfz36_4
                      try clear hfz38_0
                      try clear hfz38_1
                      try clear hfz38_2
                      try clear hfz38_3
                      try clear hfz38_4
                      try clear hfz8_0
                      try clear hfz8_1
                      try clear hfz8_2
                      try clear hx183_0
                      try clear hx183_1
                      try clear hx183_2
                      try clear hx183_3
                      try clear hx183_4
                      try clear hx186_0
                      try clear hx186_1
                      try clear hx186_2
                      try clear hx187_0
                      try clear hx187_1
                      try clear hx187_2
                      try clear hx187_3
                      try clear hx187_4
                      try clear p1
                      try clear p18
                      try clear p183
                      try clear p186
                      try clear p187
                      try clear p2
                      try clear p6
                      try clear q1
                      try clear q18
                      try clear q183
                      try clear q186
                      try clear q187
                      obtain ⟨kq, x56_32, rfl, HA, HJ32, BK182, BK184, HB⟩ := hcut
                      cases kq with
                      | zero => exact absurd HA.out (by simp [petrinetref09_trans.j2])
                      | succ kj32 =>
                        have H := HA.out
                        clear HA
                        simp only [petrinetref09_trans.j2] at H
                        by_cases c39 : x56_32 = true
                        · subst c39
                          have H1 : (some 1) = some r := by rw [if_pos rfl] at H; exact H
                          clear H
                          have H := H1
                          clear H1
                          obtain rfl := Option.some.inj H
                          go_wp2
                          repeat (go_quiet (fail); try go_wp2)
                          go_ret
                          exact ⟨by first | rfl | (simp [errW_none, errW_some] <;> rfl) | (simp [*, errW_none, errW_some] <;> rfl), by repeat (first | (with_reducible first | exact HB.out | apply below_alloc | apply pw_below_drewN | apply below_drew1 | refine below_set ?_ GE182.out | refine below_set ?_ GE184.out) | exact HB.out)⟩
                        · replace c39 := Bool.eq_false_iff.mpr c39
                          subst c39
                          have H1 : ((petrinetref09_arcs.f kj32 a0_0 l0_1 l0_2 ((rd_T58 l0_2 a1).f1)).bind fun t188 => (if t188 = 0 then ((petrinetref09_arcs.f kj32 a0_0 l0_1 l0_2 ((rd_T58 l0_2 a1).f2)).bind fun t189 => (if t189 = 0 then ((petrinetref09_arcs.f kj32 a0_0 l0_1 l0_2 ((rd_T58 l0_2 a1).f3)).bind fun t190 => (some t190)) else (some t189))) else (some t188))) = some r := by rw [if_neg (show ¬ (false = true) by decide)] at H; exact H
                          clear H
                          have H := H1
                          clear H1
                          replace H := Option.bind_eq_some_iff.mp H
                          obtain ⟨t188, A400, H⟩ := H
                          replace H : (if t188 = 0 then ((petrinetref09_arcs.f kj32 a0_0 l0_1 l0_2 ((rd_T58 l0_2 a1).f2)).bind fun t189 => (if t189 = 0 then ((petrinetref09_arcs.f kj32 a0_0 l0_1 l0_2 ((rd_T58 l0_2 a1).f3)).bind fun t190 => (some t190)) else (some t189))) else (some t188)) = some r := H
                          have A40 := Aside0.mk A400
                          clear A400
                          by_cases c41 : t188 = 0
                          · rw [if_pos c41] at H
                            have c41b0 : (t188 == 0) = true := beq_iff_eq.mpr c41
                            have c41b1 : (t188 != 0) = false := bne_eq_false_iff_eq.mpr c41
                            clear c41
                            replace H := Option.bind_eq_some_iff.mp H
                            obtain ⟨t189, A420, H⟩ := H
                            replace H : (if t189 = 0 then ((petrinetref09_arcs.f kj32 a0_0 l0_1 l0_2 ((rd_T58 l0_2 a1).f3)).bind fun t190 => (some t190)) else (some t189)) = some r := H
                            have A42 := Aside0.mk A420
                            clear A420
                            by_cases c43 : t189 = 0
                            · rw [if_pos c43] at H
                              have c43b0 : (t189 == 0) = true := beq_iff_eq.mpr c43
                              have c43b1 : (t189 != 0) = false := bne_eq_false_iff_eq.mpr c43
                              clear c43
                              replace H := Option.bind_eq_some_iff.mp H
                              obtain ⟨t190, A440, H⟩ := H
                              replace H : (some t190) = some r := H
                              have A44 := Aside0.mk A440
                              clear A440
                              obtain rfl := Option.some.inj H
                              have hnb45 := NB182_184.out
                              have hnc45 := NB184_182.out
                              have hcz46_0 : wc.cell? ⟨gb182, 0, none⟩ = some (.string a0_0) := (blk_cell BK182.out 0).trans rfl
                              have hcz46_1 : wc.cell? ⟨gb182, 1, none⟩ = some (.slice A0_1 l0_1.length c0_1) := (blk_cell BK182.out 1).trans rfl
                              have hcz46_2 : wc.cell? ⟨gb182, 2, none⟩ = some (.slice (some ad183) l0_2.length c0_2) := (blk_cell BK182.out 2).trans rfl
                              have hfz46_0 := blk_frozen BK182.out 0
                              have hfz46_1 := blk_frozen BK182.out 1
                              have hfz46_2 := blk_frozen BK182.out 2
                              have hcz47_0 : wc.cell? ⟨gb184, 0, none⟩ = some (.string ((rd_T58 l0_2 a1).f0)) := (blk_cell BK184.out 0).trans rfl
                              have hcz47_1 : wc.cell? ⟨gb184, 1, none⟩ = some (.slice A183_1 ((rd_T58 l0_2 a1).f1).length c183_1) := (blk_cell BK184.out 1).trans rfl
                              have hcz47_2 : wc.cell? ⟨gb184, 2, none⟩ = some (.slice A183_2 ((rd_T58 l0_2 a1).f2).length c183_2) := (blk_cell BK184.out 2).trans rfl
                              have hcz47_3 : wc.cell? ⟨gb184, 3, none⟩ = some (.slice A183_3 ((rd_T58 l0_2 a1).f3).length c183_3) := (blk_cell BK184.out 3).trans rfl
                              have hcz47_4 : wc.cell? ⟨gb184, 4, none⟩ = some (.int .i64 ((rd_T58 l0_2 a1).f4)) := (blk_cell BK184.out 4).trans rfl
                              have hfz47_0 := blk_frozen BK184.out 0
                              have hfz47_1 := blk_frozen BK184.out 1
                              have hfz47_2 := blk_frozen BK184.out 2
                              have hfz47_3 := blk_frozen BK184.out 3
                              have hfz47_4 := blk_frozen BK184.out 4
                              go_wp2_with (first | (go_at_call 63; (with_reducible refine (petrinetref09_arcs.calls kj32 a0_0 _ _ l0_1 _ _ l0_2 _ _ ((rd_T58 l0_2 a1).f1) t188 _ ?side1 ?side2 ?side3 ?side4 ?side5 ?side6 A40.out).mono ?_); (case side1 => repeat (first | exact (Kd.C_below HR0_1.out HB.out) | (with_reducible refine Kd.C_alloc ?_ _) | (with_reducible refine Kd.C_drewN ?_ _) | (with_reducible refine Kd.C_drew ?_))); (case side2 => exact HC0_1.out); (case side3 => repeat (first | exact (Kd.C_below HR0_2.out HB.out) | (with_reducible refine Kd.C_alloc ?_ _) | (with_reducible refine Kd.C_drewN ?_ _) | (with_reducible refine Kd.C_drew ?_))); (case side4 => exact HC0_2.out); (case side5 => repeat (first | exact (Kd.C_below HR183_1.out HB.out) | (with_reducible refine Kd.C_alloc ?_ _) | (with_reducible refine Kd.C_drewN ?_ _) | (with_reducible refine Kd.C_drew ?_))); (case side6 => exact HC183_1.out); rintro e w48 ⟨rfl, hb⟩; have n0_ := Aside0.mk (blk_below (g := gb182) (o := .cells #[.string a0_0, .slice A0_1 l0_1.length c0_1, .slice (some ad183) l0_2.length c0_2] 25 (0, 0)) (by (with_reducible repeat (first | refine blk_drewN ?_ _ | refine blk_drew ?_ | refine blk_alloc ?_ _)); exact BK182.out) hb); have n1_ := Aside0.mk (blk_below (g := gb184) (o := .cells #[.string ((rd_T58 l0_2 a1).f0), .slice A183_1 ((rd_T58 l0_2 a1).f1).length c183_1, .slice A183_2 ((rd_T58 l0_2 a1).f2).length c183_2, .slice A183_3 ((rd_T58 l0_2 a1).f3).length c183_3, .int .i64 ((rd_T58 l0_2 a1).f4)] 58 (0, 0)) (by (with_reducible repeat (first | refine blk_drewN ?_ _ | refine blk_drew ?_ | refine blk_alloc ?_ _)); exact BK184.out) hb); have n2_ := Aside0.mk (below_step (by repeat (first | (with_reducible first | exact HB.out | apply below_alloc | apply pw_below_drewN | apply below_drew1 | refine below_set ?_ GE182.out | refine below_set ?_ GE184.out) | exact HB.out)) hb); clear BK182; clear BK184; clear HB; have BK182 := n0_; have BK184 := n1_; have HB := n2_; clear n0_ n1_ n2_; (try clear hb); (try clear hb2); (try clear hk); (try clear hi); have hcz49_0 : w48.cell? ⟨gb182, 0, none⟩ = some (.string a0_0) := (blk_cell BK182.out 0).trans rfl; have hcz49_1 : w48.cell? ⟨gb182, 1, none⟩ = some (.slice A0_1 l0_1.length c0_1) := (blk_cell BK182.out 1).trans rfl; have hcz49_2 : w48.cell? ⟨gb182, 2, none⟩ = some (.slice (some ad183) l0_2.length c0_2) := (blk_cell BK182.out 2).trans rfl; have hfz49_0 := blk_frozen BK182.out 0; have hfz49_1 := blk_frozen BK182.out 1; have hfz49_2 := blk_frozen BK182.out 2; have hcz50_0 : w48.cell? ⟨gb184, 0, none⟩ = some (.string ((rd_T58 l0_2 a1).f0)) := (blk_cell BK184.out 0).trans rfl; have hcz50_1 : w48.cell? ⟨gb184, 1, none⟩ = some (.slice A183_1 ((rd_T58 l0_2 a1).f1).length c183_1) := (blk_cell BK184.out 1).trans rfl; have hcz50_2 : w48.cell? ⟨gb184, 2, none⟩ = some (.slice A183_2 ((rd_T58 l0_2 a1).f2).length c183_2) := (blk_cell BK184.out 2).trans rfl; have hcz50_3 : w48.cell? ⟨gb184, 3, none⟩ = some (.slice A183_3 ((rd_T58 l0_2 a1).f3).length c183_3) := (blk_cell BK184.out 3).trans rfl; have hcz50_4 : w48.cell? ⟨gb184, 4, none⟩ = some (.int .i64 ((rd_T58 l0_2 a1).f4)) := (blk_cell BK184.out 4).trans rfl; have hfz50_0 := blk_frozen BK184.out 0; have hfz50_1 := blk_frozen BK184.out 1; have hfz50_2 := blk_frozen BK184.out 2; have hfz50_3 := blk_frozen BK184.out 3; have hfz50_4 := blk_frozen BK184.out 4) | (go_at_call 63; (with_reducible refine (petrinetref09_arcs.calls kj32 a0_0 _ _ l0_1 _ _ l0_2 _ _ ((rd_T58 l0_2 a1).f2) t189 _ ?side1 ?side2 ?side3 ?side4 ?side5 ?side6 A42.out).mono ?_); (case side1 => repeat (first | exact (Kd.C_below HR0_1.out HB.out) | (with_reducible refine Kd.C_alloc ?_ _) | (with_reducible refine Kd.C_drewN ?_ _) | (with_reducible refine Kd.C_drew ?_))); (case side2 => exact HC0_1.out); (case side3 => repeat (first | exact (Kd.C_below HR0_2.out HB.out) | (with_reducible refine Kd.C_alloc ?_ _) | (with_reducible refine Kd.C_drewN ?_ _) | (with_reducible refine Kd.C_drew ?_))); (case side4 => exact HC0_2.out); (case side5 => repeat (first | exact (Kd.C_below HR183_2.out HB.out) | (with_reducible refine Kd.C_alloc ?_ _) | (with_reducible refine Kd.C_drewN ?_ _) | (with_reducible refine Kd.C_drew ?_))); (case side6 => exact HC183_2.out); rintro e w51 ⟨rfl, hb⟩; have n0_ := Aside0.mk (blk_below (g := gb182) (o := .cells #[.string a0_0, .slice A0_1 l0_1.length c0_1, .slice (some ad183) l0_2.length c0_2] 25 (0, 0)) (by (with_reducible repeat (first | refine blk_drewN ?_ _ | refine blk_drew ?_ | refine blk_alloc ?_ _)); exact BK182.out) hb); have n1_ := Aside0.mk (blk_below (g := gb184) (o := .cells #[.string ((rd_T58 l0_2 a1).f0), .slice A183_1 ((rd_T58 l0_2 a1).f1).length c183_1, .slice A183_2 ((rd_T58 l0_2 a1).f2).length c183_2, .slice A183_3 ((rd_T58 l0_2 a1).f3).length c183_3, .int .i64 ((rd_T58 l0_2 a1).f4)] 58 (0, 0)) (by (with_reducible repeat (first | refine blk_drewN ?_ _ | refine blk_drew ?_ | refine blk_alloc ?_ _)); exact BK184.out) hb); have n2_ := Aside0.mk (below_step (by repeat (first | (with_reducible first | exact HB.out | apply below_alloc | apply pw_below_drewN | apply below_drew1 | refine below_set ?_ GE182.out | refine below_set ?_ GE184.out) | exact HB.out)) hb); clear BK182; clear BK184; clear HB; have BK182 := n0_; have BK184 := n1_; have HB := n2_; clear n0_ n1_ n2_; (try clear hb); (try clear hb2); (try clear hk); (try clear hi); have hcz52_0 : w51.cell? ⟨gb182, 0, none⟩ = some (.string a0_0) := (blk_cell BK182.out 0).trans rfl; have hcz52_1 : w51.cell? ⟨gb182, 1, none⟩ = some (.slice A0_1 l0_1.length c0_1) := (blk_cell BK182.out 1).trans rfl; have hcz52_2 : w51.cell? ⟨gb182, 2, none⟩ = some (.slice (some ad183) l0_2.length c0_2) := (blk_cell BK182.out 2).trans rfl; have hfz52_0 := blk_frozen BK182.out 0; have hfz52_1 := blk_frozen BK182.out 1; have hfz52_2 := blk_frozen BK182.out 2; have hcz53_0 : w51.cell? ⟨gb184, 0, none⟩ = some (.string ((rd_T58 l0_2 a1).f0)) := (blk_cell BK184.out 0).trans rfl; have hcz53_1 : w51.cell? ⟨gb184, 1, none⟩ = some (.slice A183_1 ((rd_T58 l0_2 a1).f1).length c183_1) := (blk_cell BK184.out 1).trans rfl; have hcz53_2 : w51.cell? ⟨gb184, 2, none⟩ = some (.slice A183_2 ((rd_T58 l0_2 a1).f2).length c183_2) := (blk_cell BK184.out 2).trans rfl; have hcz53_3 : w51.cell? ⟨gb184, 3, none⟩ = some (.slice A183_3 ((rd_T58 l0_2 a1).f3).length c183_3) := (blk_cell BK184.out 3).trans rfl; have hcz53_4 : w51.cell? ⟨gb184, 4, none⟩ = some (.int .i64 ((rd_T58 l0_2 a1).f4)) := (blk_cell BK184.out 4).trans rfl; have hfz53_0 := blk_frozen BK184.out 0; have hfz53_1 := blk_frozen BK184.out 1; have hfz53_2 := blk_frozen BK184.out 2; have hfz53_3 := blk_frozen BK184.out 3; have hfz53_4 := blk_frozen BK184.out 4) | (go_at_call 63; (with_reducible refine (petrinetref09_arcs.calls kj32 a0_0 _ _ l0_1 _ _ l0_2 _ _ ((rd_T58 l0_2 a1).f3) t190 _ ?side1 ?side2 ?side3 ?side4 ?side5 ?side6 A44.out).mono ?_); (case side1 => repeat (first | exact (Kd.C_below HR0_1.out HB.out) | (with_reducible refine Kd.C_alloc ?_ _) | (with_reducible refine Kd.C_drewN ?_ _) | (with_reducible refine Kd.C_drew ?_))); (case side2 => exact HC0_1.out); (case side3 => repeat (first | exact (Kd.C_below HR0_2.out HB.out) | (with_reducible refine Kd.C_alloc ?_ _) | (with_reducible refine Kd.C_drewN ?_ _) | (with_reducible refine Kd.C_drew ?_))); (case side4 => exact HC0_2.out); (case side5 => repeat (first | exact (Kd.C_below HR183_3.out HB.out) | (with_reducible refine Kd.C_alloc ?_ _) | (with_reducible refine Kd.C_drewN ?_ _) | (with_reducible refine Kd.C_drew ?_))); (case side6 => exact HC183_3.out); rintro e w54 ⟨rfl, hb⟩; have n0_ := Aside0.mk (blk_below (g := gb182) (o := .cells #[.string a0_0, .slice A0_1 l0_1.length c0_1, .slice (some ad183) l0_2.length c0_2] 25 (0, 0)) (by (with_reducible repeat (first | refine blk_drewN ?_ _ | refine blk_drew ?_ | refine blk_alloc ?_ _)); exact BK182.out) hb); have n1_ := Aside0.mk (blk_below (g := gb184) (o := .cells #[.string ((rd_T58 l0_2 a1).f0), .slice A183_1 ((rd_T58 l0_2 a1).f1).length c183_1, .slice A183_2 ((rd_T58 l0_2 a1).f2).length c183_2, .slice A183_3 ((rd_T58 l0_2 a1).f3).length c183_3, .int .i64 ((rd_T58 l0_2 a1).f4)] 58 (0, 0)) (by (with_reducible repeat (first | refine blk_drewN ?_ _ | refine blk_drew ?_ | refine blk_alloc ?_ _)); exact BK184.out) hb); have n2_ := Aside0.mk (below_step (by repeat (first | (with_reducible first | exact HB.out | apply below_alloc | apply pw_below_drewN | apply below_drew1 | refine below_set ?_ GE182.out | refine below_set ?_ GE184.out) | exact HB.out)) hb); clear BK182; clear BK184; clear HB; have BK182 := n0_; have BK184 := n1_; have HB := n2_; clear n0_ n1_ n2_; (try clear hb); (try clear hb2); (try clear hk); (try clear hi)))
                              repeat (go_quiet (first | (go_at_call 63; (with_reducible refine (petrinetref09_arcs.calls kj32 a0_0 _ _ l0_1 _ _ l0_2 _ _ ((rd_T58 l0_2 a1).f1) t188 _ ?side1 ?side2 ?side3 ?side4 ?side5 ?side6 A40.out).mono ?_); (case side1 => repeat (first | exact (Kd.C_below HR0_1.out HB.out) | (with_reducible refine Kd.C_alloc ?_ _) | (with_reducible refine Kd.C_drewN ?_ _) | (with_reducible refine Kd.C_drew ?_))); (case side2 => exact HC0_1.out); (case side3 => repeat (first | exact (Kd.C_below HR0_2.out HB.out) | (with_reducible refine Kd.C_alloc ?_ _) | (with_reducible refine Kd.C_drewN ?_ _) | (with_reducible refine Kd.C_drew ?_))); (case side4 => exact HC0_2.out); (case side5 => repeat (first | exact (Kd.C_below HR183_1.out HB.out) | (with_reducible refine Kd.C_alloc ?_ _) | (with_reducible refine Kd.C_drewN ?_ _) | (with_reducible refine Kd.C_drew ?_))); (case side6 => exact HC183_1.out); rintro e w48 ⟨rfl, hb⟩; have n0_ := Aside0.mk (blk_below (g := gb182) (o := .cells #[.string a0_0, .slice A0_1 l0_1.length c0_1, .slice (some ad183) l0_2.length c0_2] 25 (0, 0)) (by (with_reducible repeat (first | refine blk_drewN ?_ _ | refine blk_drew ?_ | refine blk_alloc ?_ _)); exact BK182.out) hb); have n1_ := Aside0.mk (blk_below (g := gb184) (o := .cells #[.string ((rd_T58 l0_2 a1).f0), .slice A183_1 ((rd_T58 l0_2 a1).f1).length c183_1, .slice A183_2 ((rd_T58 l0_2 a1).f2).length c183_2, .slice A183_3 ((rd_T58 l0_2 a1).f3).length c183_3, .int .i64 ((rd_T58 l0_2 a1).f4)] 58 (0, 0)) (by (with_reducible repeat (first | refine blk_drewN ?_ _ | refine blk_drew ?_ | refine blk_alloc ?_ _)); exact BK184.out) hb); have n2_ := Aside0.mk (below_step (by repeat (first | (with_reducible first | exact HB.out | apply below_alloc | apply pw_below_drewN | apply below_drew1 | refine below_set ?_ GE182.out | refine below_set ?_ GE184.out) | exact HB.out)) hb); clear BK182; clear BK184; clear HB; have BK182 := n0_; have BK184 := n1_; have HB := n2_; clear n0_ n1_ n2_; (try clear hb); (try clear hb2); (try clear hk); (try clear hi); have hcz49_0 : w48.cell? ⟨gb182, 0, none⟩ = some (.string a0_0) := (blk_cell BK182.out 0).trans rfl; have hcz49_1 : w48.cell? ⟨gb182, 1, none⟩ = some (.slice A0_1 l0_1.length c0_1) := (blk_cell BK182.out 1).trans rfl; have hcz49_2 : w48.cell? ⟨gb182, 2, none⟩ = some (.slice (some ad183) l0_2.length c0_2) := (blk_cell BK182.out 2).trans rfl; have hfz49_0 := blk_frozen BK182.out 0; have hfz49_1 := blk_frozen BK182.out 1; have hfz49_2 := blk_frozen BK182.out 2; have hcz50_0 : w48.cell? ⟨gb184, 0, none⟩ = some (.string ((rd_T58 l0_2 a1).f0)) := (blk_cell BK184.out 0).trans rfl; have hcz50_1 : w48.cell? ⟨gb184, 1, none⟩ = some (.slice A183_1 ((rd_T58 l0_2 a1).f1).length c183_1) := (blk_cell BK184.out 1).trans rfl; have hcz50_2 : w48.cell? ⟨gb184, 2, none⟩ = some (.slice A183_2 ((rd_T58 l0_2 a1).f2).length c183_2) := (blk_cell BK184.out 2).trans rfl; have hcz50_3 : w48.cell? ⟨gb184, 3, none⟩ = some (.slice A183_3 ((rd_T58 l0_2 a1).f3).length c183_3) := (blk_cell BK184.out 3).trans rfl; have hcz50_4 : w48.cell? ⟨gb184, 4, none⟩ = some (.int .i64 ((rd_T58 l0_2 a1).f4)) := (blk_cell BK184.out 4).trans rfl; have hfz50_0 := blk_frozen BK184.out 0; have hfz50_1 := blk_frozen BK184.out 1; have hfz50_2 := blk_frozen BK184.out 2; have hfz50_3 := blk_frozen BK184.out 3; have hfz50_4 := blk_frozen BK184.out 4) | (go_at_call 63; (with_reducible refine (petrinetref09_arcs.calls kj32 a0_0 _ _ l0_1 _ _ l0_2 _ _ ((rd_T58 l0_2 a1).f2) t189 _ ?side1 ?side2 ?side3 ?side4 ?side5 ?side6 A42.out).mono ?_); (case side1 => repeat (first | exact (Kd.C_below HR0_1.out HB.out) | (with_reducible refine Kd.C_alloc ?_ _) | (with_reducible refine Kd.C_drewN ?_ _) | (with_reducible refine Kd.C_drew ?_))); (case side2 => exact HC0_1.out); (case side3 => repeat (first | exact (Kd.C_below HR0_2.out HB.out) | (with_reducible refine Kd.C_alloc ?_ _) | (with_reducible refine Kd.C_drewN ?_ _) | (with_reducible refine Kd.C_drew ?_))); (case side4 => exact HC0_2.out); (case side5 => repeat (first | exact (Kd.C_below HR183_2.out HB.out) | (with_reducible refine Kd.C_alloc ?_ _) | (with_reducible refine Kd.C_drewN ?_ _) | (with_reducible refine Kd.C_drew ?_))); (case side6 => exact HC183_2.out); rintro e w51 ⟨rfl, hb⟩; have n0_ := Aside0.mk (blk_below (g := gb182) (o := .cells #[.string a0_0, .slice A0_1 l0_1.length c0_1, .slice (some ad183) l0_2.length c0_2] 25 (0, 0)) (by (with_reducible repeat (first | refine blk_drewN ?_ _ | refine blk_drew ?_ | refine blk_alloc ?_ _)); exact BK182.out) hb); have n1_ := Aside0.mk (blk_below (g := gb184) (o := .cells #[.string ((rd_T58 l0_2 a1).f0), .slice A183_1 ((rd_T58 l0_2 a1).f1).length c183_1, .slice A183_2 ((rd_T58 l0_2 a1).f2).length c183_2, .slice A183_3 ((rd_T58 l0_2 a1).f3).length c183_3, .int .i64 ((rd_T58 l0_2 a1).f4)] 58 (0, 0)) (by (with_reducible repeat (first | refine blk_drewN ?_ _ | refine blk_drew ?_ | refine blk_alloc ?_ _)); exact BK184.out) hb); have n2_ := Aside0.mk (below_step (by repeat (first | (with_reducible first | exact HB.out | apply below_alloc | apply pw_below_drewN | apply below_drew1 | refine below_set ?_ GE182.out | refine below_set ?_ GE184.out) | exact HB.out)) hb); clear BK182; clear BK184; clear HB; have BK182 := n0_; have BK184 := n1_; have HB := n2_; clear n0_ n1_ n2_; (try clear hb); (try clear hb2); (try clear hk); (try clear hi); have hcz52_0 : w51.cell? ⟨gb182, 0, none⟩ = some (.string a0_0) := (blk_cell BK182.out 0).trans rfl; have hcz52_1 : w51.cell? ⟨gb182, 1, none⟩ = some (.slice A0_1 l0_1.length c0_1) := (blk_cell BK182.out 1).trans rfl; have hcz52_2 : w51.cell? ⟨gb182, 2, none⟩ = some (.slice (some ad183) l0_2.length c0_2) := (blk_cell BK182.out 2).trans rfl; have hfz52_0 := blk_frozen BK182.out 0; have hfz52_1 := blk_frozen BK182.out 1; have hfz52_2 := blk_frozen BK182.out 2; have hcz53_0 : w51.cell? ⟨gb184, 0, none⟩ = some (.string ((rd_T58 l0_2 a1).f0)) := (blk_cell BK184.out 0).trans rfl; have hcz53_1 : w51.cell? ⟨gb184, 1, none⟩ = some (.slice A183_1 ((rd_T58 l0_2 a1).f1).length c183_1) := (blk_cell BK184.out 1).trans rfl; have hcz53_2 : w51.cell? ⟨gb184, 2, none⟩ = some (.slice A183_2 ((rd_T58 l0_2 a1).f2).length c183_2) := (blk_cell BK184.out 2).trans rfl; have hcz53_3 : w51.cell? ⟨gb184, 3, none⟩ = some (.slice A183_3 ((rd_T58 l0_2 a1).f3).length c183_3) := (blk_cell BK184.out 3).trans rfl; have hcz53_4 : w51.cell? ⟨gb184, 4, none⟩ = some (.int .i64 ((rd_T58 l0_2 a1).f4)) := (blk_cell BK184.out 4).trans rfl; have hfz53_0 := blk_frozen BK184.out 0; have hfz53_1 := blk_frozen BK184.out 1; have hfz53_2 := blk_frozen BK184.out 2; have hfz53_3 := blk_frozen BK184.out 3; have hfz53_4 := blk_frozen BK184.out 4) | (go_at_call 63; (with_reducible refine (petrinetref09_arcs.calls kj32 a0_0 _ _ l0_1 _ _ l0_2 _ _ ((rd_T58 l0_2 a1).f3) t190 _ ?side1 ?side2 ?side3 ?side4 ?side5 ?side6 A44.out).mono ?_); (case side1 => repeat (first | exact (Kd.C_below HR0_1.out HB.out) | (with_reducible refine Kd.C_alloc ?_ _) | (with_reducible refine Kd.C_drewN ?_ _) | (with_reducible refine Kd.C_drew ?_))); (case side2 => exact HC0_1.out); (case side3 => repeat (first | exact (Kd.C_below HR0_2.out HB.out) | (with_reducible refine Kd.C_alloc ?_ _) | (with_reducible refine Kd.C_drewN ?_ _) | (with_reducible refine Kd.C_drew ?_))); (case side4 => exact HC0_2.out); (case side5 => repeat (first | exact (Kd.C_below HR183_3.out HB.out) | (with_reducible refine Kd.C_alloc ?_ _) | (with_reducible refine Kd.C_drewN ?_ _) | (with_reducible refine Kd.C_drew ?_))); (case side6 => exact HC183_3.out); rintro e w54 ⟨rfl, hb⟩; have n0_ := Aside0.mk (blk_below (g := gb182) (o := .cells #[.string a0_0, .slice A0_1 l0_1.length c0_1, .slice (some ad183) l0_2.length c0_2] 25 (0, 0)) (by (with_reducible repeat (first | refine blk_drewN ?_ _ | refine blk_drew ?_ | refine blk_alloc ?_ _)); exact BK182.out) hb); have n1_ := Aside0.mk (blk_below (g := gb184) (o := .cells #[.string ((rd_T58 l0_2 a1).f0), .slice A183_1 ((rd_T58 l0_2 a1).f1).length c183_1, .slice A183_2 ((rd_T58 l0_2 a1).f2).length c183_2, .slice A183_3 ((rd_T58 l0_2 a1).f3).length c183_3, .int .i64 ((rd_T58 l0_2 a1).f4)] 58 (0, 0)) (by (with_reducible repeat (first | refine blk_drewN ?_ _ | refine blk_drew ?_ | refine blk_alloc ?_ _)); exact BK184.out) hb); have n2_ := Aside0.mk (below_step (by repeat (first | (with_reducible first | exact HB.out | apply below_alloc | apply pw_below_drewN | apply below_drew1 | refine below_set ?_ GE182.out | refine below_set ?_ GE184.out) | exact HB.out)) hb); clear BK182; clear BK184; clear HB; have BK182 := n0_; have BK184 := n1_; have HB := n2_; clear n0_ n1_ n2_; (try clear hb); (try clear hb2); (try clear hk); (try clear hi))); try go_wp2_with (first | (go_at_call 63; (with_reducible refine (petrinetref09_arcs.calls kj32 a0_0 _ _ l0_1 _ _ l0_2 _ _ ((rd_T58 l0_2 a1).f1) t188 _ ?side1 ?side2 ?side3 ?side4 ?side5 ?side6 A40.out).mono ?_); (case side1 => repeat (first | exact (Kd.C_below HR0_1.out HB.out) | (with_reducible refine Kd.C_alloc ?_ _) | (with_reducible refine Kd.C_drewN ?_ _) | (with_reducible refine Kd.C_drew ?_))); (case side2 => exact HC0_1.out); (case side3 => repeat (first | exact (Kd.C_below HR0_2.out HB.out) | (with_reducible refine Kd.C_alloc ?_ _) | (with_reducible refine Kd.C_drewN ?_ _) | (with_reducible refine Kd.C_drew ?_))); (case side4 => exact HC0_2.out); (case side5 => repeat (first | exact (Kd.C_below HR183_1.out HB.out) | (with_reducible refine Kd.C_alloc ?_ _) | (with_reducible refine Kd.C_drewN ?_ _) | (with_reducible refine Kd.C_drew ?_))); (case side6 => exact HC183_1.out); rintro e w48 ⟨rfl, hb⟩; have n0_ := Aside0.mk (blk_below (g := gb182) (o := .cells #[.string a0_0, .slice A0_1 l0_1.length c0_1, .slice (some ad183) l0_2.length c0_2] 25 (0, 0)) (by (with_reducible repeat (first | refine blk_drewN ?_ _ | refine blk_drew ?_ | refine blk_alloc ?_ _)); exact BK182.out) hb); have n1_ := Aside0.mk (blk_below (g := gb184) (o := .cells #[.string ((rd_T58 l0_2 a1).f0), .slice A183_1 ((rd_T58 l0_2 a1).f1).length c183_1, .slice A183_2 ((rd_T58 l0_2 a1).f2).length c183_2, .slice A183_3 ((rd_T58 l0_2 a1).f3).length c183_3, .int .i64 ((rd_T58 l0_2 a1).f4)] 58 (0, 0)) (by (with_reducible repeat (first | refine blk_drewN ?_ _ | refine blk_drew ?_ | refine blk_alloc ?_ _)); exact BK184.out) hb); have n2_ := Aside0.mk (below_step (by repeat (first | (with_reducible first | exact HB.out | apply below_alloc | apply pw_below_drewN | apply below_drew1 | refine below_set ?_ GE182.out | refine below_set ?_ GE184.out) | exact HB.out)) hb); clear BK182; clear BK184; clear HB; have BK182 := n0_; have BK184 := n1_; have HB := n2_; clear n0_ n1_ n2_; (try clear hb); (try clear hb2); (try clear hk); (try clear hi); have hcz49_0 : w48.cell? ⟨gb182, 0, none⟩ = some (.string a0_0) := (blk_cell BK182.out 0).trans rfl; have hcz49_1 : w48.cell? ⟨gb182, 1, none⟩ = some (.slice A0_1 l0_1.length c0_1) := (blk_cell BK182.out 1).trans rfl; have hcz49_2 : w48.cell? ⟨gb182, 2, none⟩ = some (.slice (some ad183) l0_2.length c0_2) := (blk_cell BK182.out 2).trans rfl; have hfz49_0 := blk_frozen BK182.out 0; have hfz49_1 := blk_frozen BK182.out 1; have hfz49_2 := blk_frozen BK182.out 2; have hcz50_0 : w48.cell? ⟨gb184, 0, none⟩ = some (.string ((rd_T58 l0_2 a1).f0)) := (blk_cell BK184.out 0).trans rfl; have hcz50_1 : w48.cell? ⟨gb184, 1, none⟩ = some (.slice A183_1 ((rd_T58 l0_2 a1).f1).length c183_1) := (blk_cell BK184.out 1).trans rfl; have hcz50_2 : w48.cell? ⟨gb184, 2, none⟩ = some (.slice A183_2 ((rd_T58 l0_2 a1).f2).length c183_2) := (blk_cell BK184.out 2).trans rfl; have hcz50_3 : w48.cell? ⟨gb184, 3, none⟩ = some (.slice A183_3 ((rd_T58 l0_2 a1).f3).length c183_3) := (blk_cell BK184.out 3).trans rfl; have hcz50_4 : w48.cell? ⟨gb184, 4, none⟩ = some (.int .i64 ((rd_T58 l0_2 a1).f4)) := (blk_cell BK184.out 4).trans rfl; have hfz50_0 := blk_frozen BK184.out 0; have hfz50_1 := blk_frozen BK184.out 1; have hfz50_2 := blk_frozen BK184.out 2; have hfz50_3 := blk_frozen BK184.out 3; have hfz50_4 := blk_frozen BK184.out 4) | (go_at_call 63; (with_reducible refine (petrinetref09_arcs.calls kj32 a0_0 _ _ l0_1 _ _ l0_2 _ _ ((rd_T58 l0_2 a1).f2) t189 _ ?side1 ?side2 ?side3 ?side4 ?side5 ?side6 A42.out).mono ?_); (case side1 => repeat (first | exact (Kd.C_below HR0_1.out HB.out) | (with_reducible refine Kd.C_alloc ?_ _) | (with_reducible refine Kd.C_drewN ?_ _) | (with_reducible refine Kd.C_drew ?_))); (case side2 => exact HC0_1.out); (case side3 => repeat (first | exact (Kd.C_below HR0_2.out HB.out) | (with_reducible refine Kd.C_alloc ?_ _) | (with_reducible refine Kd.C_drewN ?_ _) | (with_reducible refine Kd.C_drew ?_))); (case side4 => exact HC0_2.out); (case side5 => repeat (first | exact (Kd.C_below HR183_2.out HB.out) | (with_reducible refine Kd.C_alloc ?_ _) | (with_reducible refine Kd.C_drewN ?_ _) | (with_reducible refine Kd.C_drew ?_))); (case side6 => exact HC183_2.out); rintro e w51 ⟨rfl, hb⟩; have n0_ := Aside0.mk (blk_below (g := gb182) (o := .cells #[.string a0_0, .slice A0_1 l0_1.length c0_1, .slice (some ad183) l0_2.length c0_2] 25 (0, 0)) (by (with_reducible repeat (first | refine blk_drewN ?_ _ | refine blk_drew ?_ | refine blk_alloc ?_ _)); exact BK182.out) hb); have n1_ := Aside0.mk (blk_below (g := gb184) (o := .cells #[.string ((rd_T58 l0_2 a1).f0), .slice A183_1 ((rd_T58 l0_2 a1).f1).length c183_1, .slice A183_2 ((rd_T58 l0_2 a1).f2).length c183_2, .slice A183_3 ((rd_T58 l0_2 a1).f3).length c183_3, .int .i64 ((rd_T58 l0_2 a1).f4)] 58 (0, 0)) (by (with_reducible repeat (first | refine blk_drewN ?_ _ | refine blk_drew ?_ | refine blk_alloc ?_ _)); exact BK184.out) hb); have n2_ := Aside0.mk (below_step (by repeat (first | (with_reducible first | exact HB.out | apply below_alloc | apply pw_below_drewN | apply below_drew1 | refine below_set ?_ GE182.out | refine below_set ?_ GE184.out) | exact HB.out)) hb); clear BK182; clear BK184; clear HB; have BK182 := n0_; have BK184 := n1_; have HB := n2_; clear n0_ n1_ n2_; (try clear hb); (try clear hb2); (try clear hk); (try clear hi); have hcz52_0 : w51.cell? ⟨gb182, 0, none⟩ = some (.string a0_0) := (blk_cell BK182.out 0).trans rfl; have hcz52_1 : w51.cell? ⟨gb182, 1, none⟩ = some (.slice A0_1 l0_1.length c0_1) := (blk_cell BK182.out 1).trans rfl; have hcz52_2 : w51.cell? ⟨gb182, 2, none⟩ = some (.slice (some ad183) l0_2.length c0_2) := (blk_cell BK182.out 2).trans rfl; have hfz52_0 := blk_frozen BK182.out 0; have hfz52_1 := blk_frozen BK182.out 1; have hfz52_2 := blk_frozen BK182.out 2; have hcz53_0 : w51.cell? ⟨gb184, 0, none⟩ = some (.string ((rd_T58 l0_2 a1).f0)) := (blk_cell BK184.out 0).trans rfl; have hcz53_1 : w51.cell? ⟨gb184, 1, none⟩ = some (.slice A183_1 ((rd_T58 l0_2 a1).f1).length c183_1) := (blk_cell BK184.out 1).trans rfl; have hcz53_2 : w51.cell? ⟨gb184, 2, none⟩ = some (.slice A183_2 ((rd_T58 l0_2 a1).f2).length c183_2) := (blk_cell BK184.out 2).trans rfl; have hcz53_3 : w51.cell? ⟨gb184, 3, none⟩ = some (.slice A183_3 ((rd_T58 l0_2 a1).f3).length c183_3) := (blk_cell BK184.out 3).trans rfl; have hcz53_4 : w51.cell? ⟨gb184, 4, none⟩ = some (.int .i64 ((rd_T58 l0_2 a1).f4)) := (blk_cell BK184.out 4).trans rfl; have hfz53_0 := blk_frozen BK184.out 0; have hfz53_1 := blk_frozen BK184.out 1; have hfz53_2 := blk_frozen BK184.out 2; have hfz53_3 := blk_frozen BK184.out 3; have hfz53_4 := blk_frozen BK184.out 4) | (go_at_call 63; (with_reducible refine (petrinetref09_arcs.calls kj32 a0_0 _ _ l0_1 _ _ l0_2 _ _ ((rd_T58 l0_2 a1).f3) t190 _ ?side1 ?side2 ?side3 ?side4 ?side5 ?side6 A44.out).mono ?_); (case side1 => repeat (first | exact (Kd.C_below HR0_1.out HB.out) | (with_reducible refine Kd.C_alloc ?_ _) | (with_reducible refine Kd.C_drewN ?_ _) | (with_reducible refine Kd.C_drew ?_))); (case side2 => exact HC0_1.out); (case side3 => repeat (first | exact (Kd.C_below HR0_2.out HB.out) | (with_reducible refine Kd.C_alloc ?_ _) | (with_reducible refine Kd.C_drewN ?_ _) | (with_reducible refine Kd.C_drew ?_))); (case side4 => exact HC0_2.out); (case side5 => repeat (first | exact (Kd.C_below HR183_3.out HB.out) | (with_reducible refine Kd.C_alloc ?_ _) | (with_reducible refine Kd.C_drewN ?_ _) | (with_reducible refine Kd.C_drew ?_))); (case side6 => exact HC183_3.out); rintro e w54 ⟨rfl, hb⟩; have n0_ := Aside0.mk (blk_below (g := gb182) (o := .cells #[.string a0_0, .slice A0_1 l0_1.length c0_1, .slice (some ad183) l0_2.length c0_2] 25 (0, 0)) (by (with_reducible repeat (first | refine blk_drewN ?_ _ | refine blk_drew ?_ | refine blk_alloc ?_ _)); exact BK182.out) hb); have n1_ := Aside0.mk (blk_below (g := gb184) (o := .cells #[.string ((rd_T58 l0_2 a1).f0), .slice A183_1 ((rd_T58 l0_2 a1).f1).length c183_1, .slice A183_2 ((rd_T58 l0_2 a1).f2).length c183_2, .slice A183_3 ((rd_T58 l0_2 a1).f3).length c183_3, .int .i64 ((rd_T58 l0_2 a1).f4)] 58 (0, 0)) (by (with_reducible repeat (first | refine blk_drewN ?_ _ | refine blk_drew ?_ | refine blk_alloc ?_ _)); exact BK184.out) hb); have n2_ := Aside0.mk (below_step (by repeat (first | (with_reducible first | exact HB.out | apply below_alloc | apply pw_below_drewN | apply below_drew1 | refine below_set ?_ GE182.out | refine below_set ?_ GE184.out) | exact HB.out)) hb); clear BK182; clear BK184; clear HB; have BK182 := n0_; have BK184 := n1_; have HB := n2_; clear n0_ n1_ n2_; (try clear hb); (try clear hb2); (try clear hk); (try clear hi))))
                              go_ret
                              exact ⟨by first | rfl | (simp [errW_none, errW_some] <;> rfl) | (simp [*, errW_none, errW_some] <;> rfl), by repeat (first | (with_reducible first | exact HB.out | apply below_alloc | apply pw_below_drewN | apply below_drew1 | refine below_set ?_ GE182.out | refine below_set ?_ GE184.out) | exact HB.out)⟩
                            · rw [if_neg c43] at H
                              have c43b0 : (t189 == 0) = false := beq_eq_false_iff_ne.mpr c43
                              have c43b1 : (t189 != 0) = true := bne_iff_ne.mpr c43
                              obtain rfl := Option.some.inj H
                              have hnb55 := NB182_184.out
                              have hnc55 := NB184_182.out
                              have hcz56_0 : wc.cell? ⟨gb182, 0, none⟩ = some (.string a0_0) := (blk_cell BK182.out 0).trans rfl
                              have hcz56_1 : wc.cell? ⟨gb182, 1, none⟩ = some (.slice A0_1 l0_1.length c0_1) := (blk_cell BK182.out 1).trans rfl
                              have hcz56_2 : wc.cell? ⟨gb182, 2, none⟩ = some (.slice (some ad183) l0_2.length c0_2) := (blk_cell BK182.out 2).trans rfl
                              have hfz56_0 := blk_frozen BK182.out 0
                              have hfz56_1 := blk_frozen BK182.out 1
                              have hfz56_2 := blk_frozen BK182.out 2
                              have hcz57_0 : wc.cell? ⟨gb184, 0, none⟩ = some (.string ((rd_T58 l0_2 a1).f0)) := (blk_cell BK184.out 0).trans rfl
                              have hcz57_1 : wc.cell? ⟨gb184, 1, none⟩ = some (.slice A183_1 ((rd_T58 l0_2 a1).f1).length c183_1) := (blk_cell BK184.out 1).trans rfl
                              have hcz57_2 : wc.cell? ⟨gb184, 2, none⟩ = some (.slice A183_2 ((rd_T58 l0_2 a1).f2).length c183_2) := (blk_cell BK184.out 2).trans rfl
                              have hcz57_3 : wc.cell? ⟨gb184, 3, none⟩ = some (.slice A183_3 ((rd_T58 l0_2 a1).f3).length c183_3) := (blk_cell BK184.out 3).trans rfl
                              have hcz57_4 : wc.cell? ⟨gb184, 4, none⟩ = some (.int .i64 ((rd_T58 l0_2 a1).f4)) := (blk_cell BK184.out 4).trans rfl
                              have hfz57_0 := blk_frozen BK184.out 0
                              have hfz57_1 := blk_frozen BK184.out 1
                              have hfz57_2 := blk_frozen BK184.out 2
                              have hfz57_3 := blk_frozen BK184.out 3
                              have hfz57_4 := blk_frozen BK184.out 4
                              go_wp2_with (first | (go_at_call 63; (with_reducible refine (petrinetref09_arcs.calls kj32 a0_0 _ _ l0_1 _ _ l0_2 _ _ ((rd_T58 l0_2 a1).f1) t188 _ ?side1 ?side2 ?side3 ?side4 ?side5 ?side6 A40.out).mono ?_); (case side1 => repeat (first | exact (Kd.C_below HR0_1.out HB.out) | (with_reducible refine Kd.C_alloc ?_ _) | (with_reducible refine Kd.C_drewN ?_ _) | (with_reducible refine Kd.C_drew ?_))); (case side2 => exact HC0_1.out); (case side3 => repeat (first | exact (Kd.C_below HR0_2.out HB.out) | (with_reducible refine Kd.C_alloc ?_ _) | (with_reducible refine Kd.C_drewN ?_ _) | (with_reducible refine Kd.C_drew ?_))); (case side4 => exact HC0_2.out); (case side5 => repeat (first | exact (Kd.C_below HR183_1.out HB.out) | (with_reducible refine Kd.C_alloc ?_ _) | (with_reducible refine Kd.C_drewN ?_ _) | (with_reducible refine Kd.C_drew ?_))); (case side6 => exact HC183_1.out); rintro e w58 ⟨rfl, hb⟩; have n0_ := Aside0.mk (blk_below (g := gb182) (o := .cells #[.string a0_0, .slice A0_1 l0_1.length c0_1, .slice (some ad183) l0_2.length c0_2] 25 (0, 0)) (by (with_reducible repeat (first | refine blk_drewN ?_ _ | refine blk_drew ?_ | refine blk_alloc ?_ _)); exact BK182.out) hb); have n1_ := Aside0.mk (blk_below (g := gb184) (o := .cells #[.string ((rd_T58 l0_2 a1).f0), .slice A183_1 ((rd_T58 l0_2 a1).f1).length c183_1, .slice A183_2 ((rd_T58 l0_2 a1).f2).length c183_2, .slice A183_3 ((rd_T58 l0_2 a1).f3).length c183_3, .int .i64 ((rd_T58 l0_2 a1).f4)] 58 (0, 0)) (by (with_reducible repeat (first | refine blk_drewN ?_ _ | refine blk_drew ?_ | refine blk_alloc ?_ _)); exact BK184.out) hb); have n2_ := Aside0.mk (below_step (by repeat (first | (with_reducible first | exact HB.out | apply below_alloc | apply pw_below_drewN | apply below_drew1 | refine below_set ?_ GE182.out | refine below_set ?_ GE184.out) | exact HB.out)) hb); clear BK182; clear BK184; clear HB; have BK182 := n0_; have BK184 := n1_; have HB := n2_; clear n0_ n1_ n2_; (try clear hb); (try clear hb2); (try clear hk); (try clear hi); have hcz59_0 : w58.cell? ⟨gb182, 0, none⟩ = some (.string a0_0) := (blk_cell BK182.out 0).trans rfl; have hcz59_1 : w58.cell? ⟨gb182, 1, none⟩ = some (.slice A0_1 l0_1.length c0_1) := (blk_cell BK182.out 1).trans rfl; have hcz59_2 : w58.cell? ⟨gb182, 2, none⟩ = some (.slice (some ad183) l0_2.length c0_2) := (blk_cell BK182.out 2).trans rfl; have hfz59_0 := blk_frozen BK182.out 0; have hfz59_1 := blk_frozen BK182.out 1; have hfz59_2 := blk_frozen BK182.out 2; have hcz60_0 : w58.cell? ⟨gb184, 0, none⟩ = some (.string ((rd_T58 l0_2 a1).f0)) := (blk_cell BK184.out 0).trans rfl; have hcz60_1 : w58.cell? ⟨gb184, 1, none⟩ = some (.slice A183_1 ((rd_T58 l0_2 a1).f1).length c183_1) := (blk_cell BK184.out 1).trans rfl; have hcz60_2 : w58.cell? ⟨gb184, 2, none⟩ = some (.slice A183_2 ((rd_T58 l0_2 a1).f2).length c183_2) := (blk_cell BK184.out 2).trans rfl; have hcz60_3 : w58.cell? ⟨gb184, 3, none⟩ = some (.slice A183_3 ((rd_T58 l0_2 a1).f3).length c183_3) := (blk_cell BK184.out 3).trans rfl; have hcz60_4 : w58.cell? ⟨gb184, 4, none⟩ = some (.int .i64 ((rd_T58 l0_2 a1).f4)) := (blk_cell BK184.out 4).trans rfl; have hfz60_0 := blk_frozen BK184.out 0; have hfz60_1 := blk_frozen BK184.out 1; have hfz60_2 := blk_frozen BK184.out 2; have hfz60_3 := blk_frozen BK184.out 3; have hfz60_4 := blk_frozen BK184.out 4) | (go_at_call 63; (with_reducible refine (petrinetref09_arcs.calls kj32 a0_0 _ _ l0_1 _ _ l0_2 _ _ ((rd_T58 l0_2 a1).f2) t189 _ ?side1 ?side2 ?side3 ?side4 ?side5 ?side6 A42.out).mono ?_); (case side1 => repeat (first | exact (Kd.C_below HR0_1.out HB.out) | (with_reducible refine Kd.C_alloc ?_ _) | (with_reducible refine Kd.C_drewN ?_ _) | (with_reducible refine Kd.C_drew ?_))); (case side2 => exact HC0_1.out); (case side3 => repeat (first | exact (Kd.C_below HR0_2.out HB.out) | (with_reducible refine Kd.C_alloc ?_ _) | (with_reducible refine Kd.C_drewN ?_ _) | (with_reducible refine Kd.C_drew ?_))); (case side4 => exact HC0_2.out); (case side5 => repeat (first | exact (Kd.C_below HR183_2.out HB.out) | (with_reducible refine Kd.C_alloc ?_ _) | (with_reducible refine Kd.C_drewN ?_ _) | (with_reducible refine Kd.C_drew ?_))); (case side6 => exact HC183_2.out); rintro e w61 ⟨rfl, hb⟩; have n0_ := Aside0.mk (blk_below (g := gb182) (o := .cells #[.string a0_0, .slice A0_1 l0_1.length c0_1, .slice (some ad183) l0_2.length c0_2] 25 (0, 0)) (by (with_reducible repeat (first | refine blk_drewN ?_ _ | refine blk_drew ?_ | refine blk_alloc ?_ _)); exact BK182.out) hb); have n1_ := Aside0.mk (blk_below (g := gb184) (o := .cells #[.string ((rd_T58 l0_2 a1).f0), .slice A183_1 ((rd_T58 l0_2 a1).f1).length c183_1, .slice A183_2 ((rd_T58 l0_2 a1).f2).length c183_2, .slice A183_3 ((rd_T58 l0_2 a1).f3).length c183_3, .int .i64 ((rd_T58 l0_2 a1).f4)] 58 (0, 0)) (by (with_reducible repeat (first | refine blk_drewN ?_ _ | refine blk_drew ?_ | refine blk_alloc ?_ _)); exact BK184.out) hb); have n2_ := Aside0.mk (below_step (by repeat (first | (with_reducible first | exact HB.out | apply below_alloc | apply pw_below_drewN | apply below_drew1 | refine below_set ?_ GE182.out | refine below_set ?_ GE184.out) | exact HB.out)) hb); clear BK182; clear BK184; clear HB; have BK182 := n0_; have BK184 := n1_; have HB := n2_; clear n0_ n1_ n2_; (try clear hb); (try clear hb2); (try clear hk); (try clear hi)))
                              repeat (go_quiet (first | (go_at_call 63; (with_reducible refine (petrinetref09_arcs.calls kj32 a0_0 _ _ l0_1 _ _ l0_2 _ _ ((rd_T58 l0_2 a1).f1) t188 _ ?side1 ?side2 ?side3 ?side4 ?side5 ?side6 A40.out).mono ?_); (case side1 => repeat (first | exact (Kd.C_below HR0_1.out HB.out) | (with_reducible refine Kd.C_alloc ?_ _) | (with_reducible refine Kd.C_drewN ?_ _) | (with_reducible refine Kd.C_drew ?_))); (case side2 => exact HC0_1.out); (case side3 => repeat (first | exact (Kd.C_below HR0_2.out HB.out) | (with_reducible refine Kd.C_alloc ?_ _) | (with_reducible refine Kd.C_drewN ?_ _) | (with_reducible refine Kd.C_drew ?_))); (case side4 => exact HC0_2.out); (case side5 => repeat (first | exact (Kd.C_below HR183_1.out HB.out) | (with_reducible refine Kd.C_alloc ?_ _) | (with_reducible refine Kd.C_drewN ?_ _) | (with_reducible refine Kd.C_drew ?_))); (case side6 => exact HC183_1.out); rintro e w58 ⟨rfl, hb⟩; have n0_ := Aside0.mk (blk_below (g := gb182) (o := .cells #[.string a0_0, .slice A0_1 l0_1.length c0_1, .slice (some ad183) l0_2.length c0_2] 25 (0, 0)) (by (with_reducible repeat (first | refine blk_drewN ?_ _ | refine blk_drew ?_ | refine blk_alloc ?_ _)); exact BK182.out) hb); have n1_ := Aside0.mk (blk_below (g := gb184) (o := .cells #[.string ((rd_T58 l0_2 a1).f0), .slice A183_1 ((rd_T58 l0_2 a1).f1).length c183_1, .slice A183_2 ((rd_T58 l0_2 a1).f2).length c183_2, .slice A183_3 ((rd_T58 l0_2 a1).f3).length c183_3, .int .i64 ((rd_T58 l0_2 a1).f4)] 58 (0, 0)) (by (with_reducible repeat (first | refine blk_drewN ?_ _ | refine blk_drew ?_ | refine blk_alloc ?_ _)); exact BK184.out) hb); have n2_ := Aside0.mk (below_step (by repeat (first | (with_reducible first | exact HB.out | apply below_alloc | apply pw_below_drewN | apply below_drew1 | refine below_set ?_ GE182.out | refine below_set ?_ GE184.out) | exact HB.out)) hb); clear BK182; clear BK184; clear HB; have BK182 := n0_; have BK184 := n1_; have HB := n2_; clear n0_ n1_ n2_; (try clear hb); (try clear hb2); (try clear hk); (try clear hi); have hcz59_0 : w58.cell? ⟨gb182, 0, none⟩ = some (.string a0_0) := (blk_cell BK182.out 0).trans rfl; have hcz59_1 : w58.cell? ⟨gb182, 1, none⟩ = some (.slice A0_1 l0_1.length c0_1) := (blk_cell BK182.out 1).trans rfl; have hcz59_2 : w58.cell? ⟨gb182, 2, none⟩ = some (.slice (some ad183) l0_2.length c0_2) := (blk_cell BK182.out 2).trans rfl; have hfz59_0 := blk_frozen BK182.out 0; have hfz59_1 := blk_frozen BK182.out 1; have hfz59_2 := blk_frozen BK182.out 2; have hcz60_0 : w58.cell? ⟨gb184, 0, none⟩ = some (.string ((rd_T58 l0_2 a1).f0)) := (blk_cell BK184.out 0).trans rfl; have hcz60_1 : w58.cell? ⟨gb184, 1, none⟩ = some (.slice A183_1 ((rd_T58 l0_2 a1).f1).length c183_1) := (blk_cell BK184.out 1).trans rfl; have hcz60_2 : w58.cell? ⟨gb184, 2, none⟩ = some (.slice A183_2 ((rd_T58 l0_2 a1).f2).length c183_2) := (blk_cell BK184.out 2).trans rfl; have hcz60_3 : w58.cell? ⟨gb184, 3, none⟩ = some (.slice A183_3 ((rd_T58 l0_2 a1).f3).length c183_3) := (blk_cell BK184.out 3).trans rfl; have hcz60_4 : w58.cell? ⟨gb184, 4, none⟩ = some (.int .i64 ((rd_T58 l0_2 a1).f4)) := (blk_cell BK184.out 4).trans rfl; have hfz60_0 := blk_frozen BK184.out 0; have hfz60_1 := blk_frozen BK184.out 1; have hfz60_2 := blk_frozen BK184.out 2; have hfz60_3 := blk_frozen BK184.out 3; have hfz60_4 := blk_frozen BK184.out 4) | (go_at_call 63; (with_reducible refine (petrinetref09_arcs.calls kj32 a0_0 _ _ l0_1 _ _ l0_2 _ _ ((rd_T58 l0_2 a1).f2) t189 _ ?side1 ?side2 ?side3 ?side4 ?side5 ?side6 A42.out).mono ?_); (case side1 => repeat (first | exact (Kd.C_below HR0_1.out HB.out) | (with_reducible refine Kd.C_alloc ?_ _) | (with_reducible refine Kd.C_drewN ?_ _) | (with_reducible refine Kd.C_drew ?_))); (case side2 => exact HC0_1.out); (case side3 => repeat (first | exact (Kd.C_below HR0_2.out HB.out) | (with_reducible refine Kd.C_alloc ?_ _) | (with_reducible refine Kd.C_drewN ?_ _) | (with_reducible refine Kd.C_drew ?_))); (case side4 => exact HC0_2.out); (case side5 => repeat (first | exact (Kd.C_below HR183_2.out HB.out) | (with_reducible refine Kd.C_alloc ?_ _) | (with_reducible refine Kd.C_drewN ?_ _) | (with_reducible refine Kd.C_drew ?_))); (case side6 => exact HC183_2.out); rintro e w61 ⟨rfl, hb⟩; have n0_ := Aside0.mk (blk_below (g := gb182) (o := .cells #[.string a0_0, .slice A0_1 l0_1.length c0_1, .slice (some ad183) l0_2.length c0_2] 25 (0, 0)) (by (with_reducible repeat (first | refine blk_drewN ?_ _ | refine blk_drew ?_ | refine blk_alloc ?_ _)); exact BK182.out) hb); have n1_ := Aside0.mk (blk_below (g := gb184) (o := .cells #[.string ((rd_T58 l0_2 a1).f0), .slice A183_1 ((rd_T58 l0_2 a1).f1).length c183_1, .slice A183_2 ((rd_T58 l0_2 a1).f2).length c183_2, .slice A183_3 ((rd_T58 l0_2 a1).f3).length c183_3, .int .i64 ((rd_T58 l0_2 a1).f4)] 58 (0, 0)) (by (with_reducible repeat (first | refine blk_drewN ?_ _ | refine blk_drew ?_ | refine blk_alloc ?_ _)); exact BK184.out) hb); have n2_ := Aside0.mk (below_step (by repeat (first | (with_reducible first | exact HB.out | apply below_alloc | apply pw_below_drewN | apply below_drew1 | refine below_set ?_ GE182.out | refine below_set ?_ GE184.out) | exact HB.out)) hb); clear BK182; clear BK184; clear HB; have BK182 := n0_; have BK184 := n1_; have HB := n2_; clear n0_ n1_ n2_; (try clear hb); (try clear hb2); (try clear hk); (try clear hi))); try go_wp2_with (first | (go_at_call 63; (with_reducible refine (petrinetref09_arcs.calls kj32 a0_0 _ _ l0_1 _ _ l0_2 _ _ ((rd_T58 l0_2 a1).f1) t188 _ ?side1 ?side2 ?side3 ?side4 ?side5 ?side6 A40.out).mono ?_); (case side1 => repeat (first | exact (Kd.C_below HR0_1.out HB.out) | (with_reducible refine Kd.C_alloc ?_ _) | (with_reducible refine Kd.C_drewN ?_ _) | (with_reducible refine Kd.C_drew ?_))); (case side2 => exact HC0_1.out); (case side3 => repeat (first | exact (Kd.C_below HR0_2.out HB.out) | (with_reducible refine Kd.C_alloc ?_ _) | (with_reducible refine Kd.C_drewN ?_ _) | (with_reducible refine Kd.C_drew ?_))); (case side4 => exact HC0_2.out); (case side5 => repeat (first | exact (Kd.C_below HR183_1.out HB.out) | (with_reducible refine Kd.C_alloc ?_ _) | (with_reducible refine Kd.C_drewN ?_ _) | (with_reducible refine Kd.C_drew ?_))); (case side6 => exact HC183_1.out); rintro e w58 ⟨rfl, hb⟩; have n0_ := Aside0.mk (blk_below (g := gb182) (o := .cells #[.string a0_0, .slice A0_1 l0_1.length c0_1, .slice (some ad183) l0_2.length c0_2] 25 (0, 0)) (by (with_reducible repeat (first | refine blk_drewN ?_ _ | refine blk_drew ?_ | refine blk_alloc ?_ _)); exact BK182.out) hb); have n1_ := Aside0.mk (blk_below (g := gb184) (o := .cells #[.string ((rd_T58 l0_2 a1).f0), .slice A183_1 ((rd_T58 l0_2 a1).f1).length c183_1, .slice A183_2 ((rd_T58 l0_2 a1).f2).length c183_2, .slice A183_3 ((rd_T58 l0_2 a1).f3).length c183_3, .int .i64 ((rd_T58 l0_2 a1).f4)] 58 (0, 0)) (by (with_reducible repeat (first | refine blk_drewN ?_ _ | refine blk_drew ?_ | refine blk_alloc ?_ _)); exact BK184.out) hb); have n2_ := Aside0.mk (below_step (by repeat (first | (with_reducible first | exact HB.out | apply below_alloc | apply pw_below_drewN | apply below_drew1 | refine below_set ?_ GE182.out | refine below_set ?_ GE184.out) | exact HB.out)) hb); clear BK182; clear BK184; clear HB; have BK182 := n0_; have BK184 := n1_; have HB := n2_; clear n0_ n1_ n2_; (try clear hb); (try clear hb2); (try clear hk); (try clear hi); have hcz59_0 : w58.cell? ⟨gb182, 0, none⟩ = some (.string a0_0) := (blk_cell BK182.out 0).trans rfl; have hcz59_1 : w58.cell? ⟨gb182, 1, none⟩ = some (.slice A0_1 l0_1.length c0_1) := (blk_cell BK182.out 1).trans rfl; have hcz59_2 : w58.cell? ⟨gb182, 2, none⟩ = some (.slice (some ad183) l0_2.length c0_2) := (blk_cell BK182.out 2).trans rfl; have hfz59_0 := blk_frozen BK182.out 0; have hfz59_1 := blk_frozen BK182.out 1; have hfz59_2 := blk_frozen BK182.out 2; have hcz60_0 : w58.cell? ⟨gb184, 0, none⟩ = some (.string ((rd_T58 l0_2 a1).f0)) := (blk_cell BK184.out 0).trans rfl; have hcz60_1 : w58.cell? ⟨gb184, 1, none⟩ = some (.slice A183_1 ((rd_T58 l0_2 a1).f1).length c183_1) := (blk_cell BK184.out 1).trans rfl; have hcz60_2 : w58.cell? ⟨gb184, 2, none⟩ = some (.slice A183_2 ((rd_T58 l0_2 a1).f2).length c183_2) := (blk_cell BK184.out 2).trans rfl; have hcz60_3 : w58.cell? ⟨gb184, 3, none⟩ = some (.slice A183_3 ((rd_T58 l0_2 a1).f3).length c183_3) := (blk_cell BK184.out 3).trans rfl; have hcz60_4 : w58.cell? ⟨gb184, 4, none⟩ = some (.int .i64 ((rd_T58 l0_2 a1).f4)) := (blk_cell BK184.out 4).trans rfl; have hfz60_0 := blk_frozen BK184.out 0; have hfz60_1 := blk_frozen BK184.out 1; have hfz60_2 := blk_frozen BK184.out 2; have hfz60_3 := blk_frozen BK184.out 3; have hfz60_4 := blk_frozen BK184.out 4) | (go_at_call 63; (with_reducible refine (petrinetref09_arcs.calls kj32 a0_0 _ _ l0_1 _ _ l0_2 _ _ ((rd_T58 l0_2 a1).f2) t189 _ ?side1 ?side2 ?side3 ?side4 ?side5 ?side6 A42.out).mono ?_); (case side1 => repeat (first | exact (Kd.C_below HR0_1.out HB.out) | (with_reducible refine Kd.C_alloc ?_ _) | (with_reducible refine Kd.C_drewN ?_ _) | (with_reducible refine Kd.C_drew ?_))); (case side2 => exact HC0_1.out); (case side3 => repeat (first | exact (Kd.C_below HR0_2.out HB.out) | (with_reducible refine Kd.C_alloc ?_ _) | (with_reducible refine Kd.C_drewN ?_ _) | (with_reducible refine Kd.C_drew ?_))); (case side4 => exact HC0_2.out); (case side5 => repeat (first | exact (Kd.C_below HR183_2.out HB.out) | (with_reducible refine Kd.C_alloc ?_ _) | (with_reducible refine Kd.C_drewN ?_ _) | (with_reducible refine Kd.C_drew ?_))); (case side6 => exact HC183_2.out); rintro e w61 ⟨rfl, hb⟩; have n0_ := Aside0.mk (blk_below (g := gb182) (o := .cells #[.string a0_0, .slice A0_1 l0_1.length c0_1, .slice (some ad183) l0_2.length c0_2] 25 (0, 0)) (by (with_reducible repeat (first | refine blk_drewN ?_ _ | refine blk_drew ?_ | refine blk_alloc ?_ _)); exact BK182.out) hb); have n1_ := Aside0.mk (blk_below (g := gb184) (o := .cells #[.string ((rd_T58 l0_2 a1).f0), .slice A183_1 ((rd_T58 l0_2 a1).f1).length c183_1, .slice A183_2 ((rd_T58 l0_2 a1).f2).length c183_2, .slice A183_3 ((rd_T58 l0_2 a1).f3).length c183_3, .int .i64 ((rd_T58 l0_2 a1).f4)] 58 (0, 0)) (by (with_reducible repeat (first | refine blk_drewN ?_ _ | refine blk_drew ?_ | refine blk_alloc ?_ _)); exact BK184.out) hb); have n2_ := Aside0.mk (below_step (by repeat (first | (with_reducible first | exact HB.out | apply below_alloc | apply pw_below_drewN | apply below_drew1 | refine below_set ?_ GE182.out | refine below_set ?_ GE184.out) | exact HB.out)) hb); clear BK182; clear BK184; clear HB; have BK182 := n0_; have BK184 := n1_; have HB := n2_; clear n0_ n1_ n2_; (try clear hb); (try clear hb2); (try clear hk); (try clear hi))))
                              go_ret
                              exact ⟨by first | rfl | (simp [errW_none, errW_some] <;> rfl) | (simp [*, errW_none, errW_some] <;> rfl), by repeat (first | (with_reducible first | exact HB.out | apply below_alloc | apply pw_below_drewN | apply below_drew1 | refine below_set ?_ GE182.out | refine below_set ?_ GE184.out) | exact HB.out)⟩
                          · rw [if_neg c41] at H
                            have c41b0 : (t188 == 0) = false := beq_eq_false_iff_ne.mpr c41
                            have c41b1 : (t188 != 0) = true := bne_iff_ne.mpr c41
                            obtain rfl := Option.some.inj H
                            have hnb62 := NB182_184.out
                            have hnc62 := NB184_182.out
                            have hcz63_0 : wc.cell? ⟨gb182, 0, none⟩ = some (.string a0_0) := (blk_cell BK182.out 0).trans rfl
                            have hcz63_1 : wc.cell? ⟨gb182, 1, none⟩ = some (.slice A0_1 l0_1.length c0_1) := (blk_cell BK182.out 1).trans rfl
                            have hcz63_2 : wc.cell? ⟨gb182, 2, none⟩ = some (.slice (some ad183) l0_2.length c0_2) := (blk_cell BK182.out 2).trans rfl
                            have hfz63_0 := blk_frozen BK182.out 0
                            have hfz63_1 := blk_frozen BK182.out 1
                            have hfz63_2 := blk_frozen BK182.out 2
                            have hcz64_0 : wc.cell? ⟨gb184, 0, none⟩ = some (.string ((rd_T58 l0_2 a1).f0)) := (blk_cell BK184.out 0).trans rfl
                            have hcz64_1 : wc.cell? ⟨gb184, 1, none⟩ = some (.slice A183_1 ((rd_T58 l0_2 a1).f1).length c183_1) := (blk_cell BK184.out 1).trans rfl
                            have hcz64_2 : wc.cell? ⟨gb184, 2, none⟩ = some (.slice A183_2 ((rd_T58 l0_2 a1).f2).length c183_2) := (blk_cell BK184.out 2).trans rfl
                            have hcz64_3 : wc.cell? ⟨gb184, 3, none⟩ = some (.slice A183_3 ((rd_T58 l0_2 a1).f3).length c183_3) := (blk_cell BK184.out 3).trans rfl
                            have hcz64_4 : wc.cell? ⟨gb184, 4, none⟩ = some (.int .i64 ((rd_T58 l0_2 a1).f4)) := (blk_cell BK184.out 4).trans rfl
                            have hfz64_0 := blk_frozen BK184.out 0
                            have hfz64_1 := blk_frozen BK184.out 1
                            have hfz64_2 := blk_frozen BK184.out 2
                            have hfz64_3 := blk_frozen BK184.out 3
                            have hfz64_4 := blk_frozen BK184.out 4
                            go_wp2_with (first | (go_at_call 63; (with_reducible refine (petrinetref09_arcs.calls kj32 a0_0 _ _ l0_1 _ _ l0_2 _ _ ((rd_T58 l0_2 a1).f1) t188 _ ?side1 ?side2 ?side3 ?side4 ?side5 ?side6 A40.out).mono ?_); (case side1 => repeat (first | exact (Kd.C_below HR0_1.out HB.out) | (with_reducible refine Kd.C_alloc ?_ _) | (with_reducible refine Kd.C_drewN ?_ _) | (with_reducible refine Kd.C_drew ?_))); (case side2 => exact HC0_1.out); (case side3 => repeat (first | exact (Kd.C_below HR0_2.out HB.out) | (with_reducible refine Kd.C_alloc ?_ _) | (with_reducible refine Kd.C_drewN ?_ _) | (with_reducible refine Kd.C_drew ?_))); (case side4 => exact HC0_2.out); (case side5 => repeat (first | exact (Kd.C_below HR183_1.out HB.out) | (with_reducible refine Kd.C_alloc ?_ _) | (with_reducible refine Kd.C_drewN ?_ _) | (with_reducible refine Kd.C_drew ?_))); (case side6 => exact HC183_1.out); rintro e w65 ⟨rfl, hb⟩; have n0_ := Aside0.mk (blk_below (g := gb182) (o := .cells #[.string a0_0, .slice A0_1 l0_1.length c0_1, .slice (some ad183) l0_2.length c0_2] 25 (0, 0)) (by (with_reducible repeat (first | refine blk_drewN ?_ _ | refine blk_drew ?_ | refine blk_alloc ?_ _)); exact BK182.out) hb); have n1_ := Aside0.mk (blk_below (g := gb184) (o := .cells #[.string ((rd_T58 l0_2 a1).f0), .slice A183_1 ((rd_T58 l0_2 a1).f1).length c183_1, .slice A183_2 ((rd_T58 l0_2 a1).f2).length c183_2, .slice A183_3 ((rd_T58 l0_2 a1).f3).length c183_3, .int .i64 ((rd_T58 l0_2 a1).f4)] 58 (0, 0)) (by (with_reducible repeat (first | refine blk_drewN ?_ _ | refine blk_drew ?_ | refine blk_alloc ?_ _)); exact BK184.out) hb); have n2_ := Aside0.mk (below_step (by repeat (first | (with_reducible first | exact HB.out | apply below_alloc | apply pw_below_drewN | apply below_drew1 | refine below_set ?_ GE182.out | refine below_set ?_ GE184.out) | exact HB.out)) hb); clear BK182; clear BK184; clear HB; have BK182 := n0_; have BK184 := n1_; have HB := n2_; clear n0_ n1_ n2_; (try clear hb); (try clear hb2); (try clear hk); (try clear hi)))
                            repeat (go_quiet (first | (go_at_call 63; (with_reducible refine (petrinetref09_arcs.calls kj32 a0_0 _ _ l0_1 _ _ l0_2 _ _ ((rd_T58 l0_2 a1).f1) t188 _ ?side1 ?side2 ?side3 ?side4 ?side5 ?side6 A40.out).mono ?_); (case side1 => repeat (first | exact (Kd.C_below HR0_1.out HB.out) | (with_reducible refine Kd.C_alloc ?_ _) | (with_reducible refine Kd.C_drewN ?_ _) | (with_reducible refine Kd.C_drew ?_))); (case side2 => exact HC0_1.out); (case side3 => repeat (first | exact (Kd.C_below HR0_2.out HB.out) | (with_reducible refine Kd.C_alloc ?_ _) | (with_reducible refine Kd.C_drewN ?_ _) | (with_reducible refine Kd.C_drew ?_))); (case side4 => exact HC0_2.out); (case side5 => repeat (first | exact (Kd.C_below HR183_1.out HB.out) | (with_reducible refine Kd.C_alloc ?_ _) | (with_reducible refine Kd.C_drewN ?_ _) | (with_reducible refine Kd.C_drew ?_))); (case side6 => exact HC183_1.out); rintro e w65 ⟨rfl, hb⟩; have n0_ := Aside0.mk (blk_below (g := gb182) (o := .cells #[.string a0_0, .slice A0_1 l0_1.length c0_1, .slice (some ad183) l0_2.length c0_2] 25 (0, 0)) (by (with_reducible repeat (first | refine blk_drewN ?_ _ | refine blk_drew ?_ | refine blk_alloc ?_ _)); exact BK182.out) hb); have n1_ := Aside0.mk (blk_below (g := gb184) (o := .cells #[.string ((rd_T58 l0_2 a1).f0), .slice A183_1 ((rd_T58 l0_2 a1).f1).length c183_1, .slice A183_2 ((rd_T58 l0_2 a1).f2).length c183_2, .slice A183_3 ((rd_T58 l0_2 a1).f3).length c183_3, .int .i64 ((rd_T58 l0_2 a1).f4)] 58 (0, 0)) (by (with_reducible repeat (first | refine blk_drewN ?_ _ | refine blk_drew ?_ | refine blk_alloc ?_ _)); exact BK184.out) hb); have n2_ := Aside0.mk (below_step (by repeat (first | (with_reducible first | exact HB.out | apply below_alloc | apply pw_below_drewN | apply below_drew1 | refine below_set ?_ GE182.out | refine below_set ?_ GE184.out) | exact HB.out)) hb); clear BK182; clear BK184; clear HB; have BK182 := n0_; have BK184 := n1_; have HB := n2_; clear n0_ n1_ n2_; (try clear hb); (try clear hb2); (try clear hk); (try clear hi))); try go_wp2_with (first | (go_at_call 63; (with_reducible refine (petrinetref09_arcs.calls kj32 a0_0 _ _ l0_1 _ _ l0_2 _ _ ((rd_T58 l0_2 a1).f1) t188 _ ?side1 ?side2 ?side3 ?side4 ?side5 ?side6 A40.out).mono ?_); (case side1 => repeat (first | exact (Kd.C_below HR0_1.out HB.out) | (with_reducible refine Kd.C_alloc ?_ _) | (with_reducible refine Kd.C_drewN ?_ _) | (with_reducible refine Kd.C_drew ?_))); (case side2 => exact HC0_1.out); (case side3 => repeat (first | exact (Kd.C_below HR0_2.out HB.out) | (with_reducible refine Kd.C_alloc ?_ _) | (with_reducible refine Kd.C_drewN ?_ _) | (with_reducible refine Kd.C_drew ?_))); (case side4 => exact HC0_2.out); (case side5 => repeat (first | exact (Kd.C_below HR183_1.out HB.out) | (with_reducible refine Kd.C_alloc ?_ _) | (with_reducible refine Kd.C_drewN ?_ _) | (with_reducible refine Kd.C_drew ?_))); (case side6 => exact HC183_1.out); rintro e w65 ⟨rfl, hb⟩; have n0_ := Aside0.mk (blk_below (g := gb182) (o := .cells #[.string a0_0, .slice A0_1 l0_1.length c0_1, .slice (some ad183) l0_2.length c0_2] 25 (0, 0)) (by (with_reducible repeat (first | refine blk_drewN ?_ _ | refine blk_drew ?_ | refine blk_alloc ?_ _)); exact BK182.out) hb); have n1_ := Aside0.mk (blk_below (g := gb184) (o := .cells #[.string ((rd_T58 l0_2 a1).f0), .slice A183_1 ((rd_T58 l0_2 a1).f1).length c183_1, .slice A183_2 ((rd_T58 l0_2 a1).f2).length c183_2, .slice A183_3 ((rd_T58 l0_2 a1).f3).length c183_3, .int .i64 ((rd_T58 l0_2 a1).f4)] 58 (0, 0)) (by (with_reducible repeat (first | refine blk_drewN ?_ _ | refine blk_drew ?_ | refine blk_alloc ?_ _)); exact BK184.out) hb); have n2_ := Aside0.mk (below_step (by repeat (first | (with_reducible first | exact HB.out | apply below_alloc | apply pw_below_drewN | apply below_drew1 | refine below_set ?_ GE182.out | refine below_set ?_ GE184.out) | exact HB.out)) hb); clear BK182; clear BK184; clear HB; have BK182 := n0_; have BK184 := n1_; have HB := n2_; clear n0_ n1_ n2_; (try clear hb); (try clear hb2); (try clear hk); (try clear hi))))
                            go_ret
                            exact ⟨by first | rfl | (simp [errW_none, errW_some] <;> rfl) | (simp [*, errW_none, errW_some] <;> rfl), by repeat (first | (with_reducible first | exact HB.out | apply below_alloc | apply pw_below_drewN | apply below_drew1 | refine below_set ?_ GE182.out | refine below_set ?_ GE184.out) | exact HB.out)⟩
      · replace c6 := Bool.eq_false_iff.mpr c6
        subst c6
        have H1 : (some 5) = some r := by rw [if_neg (show ¬ (false = true) by decide)] at H; exact H
        clear H
        have H := H1
        clear H1
        obtain rfl := Option.some.inj H
        go_enter Try.func59, Try.ntmps59
        go_wp2_with (first | ((with_reducible refine gate_dst (N := 2) rfl ?_); refine box_event ?hg (N := 2) ?hd (cs := #[.string a0_0, .slice A0_1 l0_1.length c0_1, .slice A0_2 l0_2.length c0_2]) (t := 25) ?hr ?_; (case hd => rfl); (case hg => rfl); (case hr => first | (go_simp; done) | (go_simp; rfl)); intro gb182 hg w66 hbox hb; have n0_ := Aside0.mk (below_step (by repeat (first | (with_reducible first | exact HB.out | apply below_alloc | apply pw_below_drewN | apply below_drew1) | exact HB.out)) hb); have n1_ := Aside0.mk (hbox); have n2_ := Aside0.mk ((by rw [hg]; exact (below_size (by repeat (first | (with_reducible first | exact HB.out | apply below_alloc | apply pw_below_drewN | apply below_drew1) | exact HB.out))) : w.heap.size ≤ gb182)); have n3_ := Aside0.mk ((by rw [hg]; exact (below_size (by repeat (first | (with_reducible first | exact HB.out | apply below_alloc | apply pw_below_drewN | apply below_drew1) | exact HB.out))) : w.heap.size ≤ gb182)); clear HB; have HB := n0_; have BK182 := n1_; have GW182 := n2_; have GE182 := n3_; clear n0_ n1_ n2_ n3_; clear hb hbox hg; have hcz67_0 : w66.cell? ⟨gb182, 0, none⟩ = some (.string a0_0) := (blk_cell BK182.out 0).trans rfl; have hcz67_1 : w66.cell? ⟨gb182, 1, none⟩ = some (.slice A0_1 l0_1.length c0_1) := (blk_cell BK182.out 1).trans rfl; have hcz67_2 : w66.cell? ⟨gb182, 2, none⟩ = some (.slice A0_2 l0_2.length c0_2) := (blk_cell BK182.out 2).trans rfl; have hfz67_0 := blk_frozen BK182.out 0; have hfz67_1 := blk_frozen BK182.out 1; have hfz67_2 := blk_frozen BK182.out 2; have p183 : 0 ≤ (a1 : Int) := of_decide_eq_true (by first | (with_reducible assumption) | assumption); have q183 : a1 < (l0_2.length : Int) := of_decide_eq_true (by first | (with_reducible assumption) | assumption); obtain ⟨ad183, A183_1, c183_1, A183_2, c183_2, A183_3, c183_3, e183, hx183_0, hx183_1, hx183_2, hx183_3, hx183_4, hl183_1, hi183_1, hl183_2, hi183_2, hl183_3, hi183_3⟩ := at_T58 HR0_2.out a1 p183 q183; cases e183; replace hx183_0 := (HB.out.cell (World.block_lt_of_cell? w _ hx183_0)).trans hx183_0; replace hx183_1 := (HB.out.cell (World.block_lt_of_cell? w _ hx183_1)).trans hx183_1; replace hx183_2 := (HB.out.cell (World.block_lt_of_cell? w _ hx183_2)).trans hx183_2; replace hx183_3 := (HB.out.cell (World.block_lt_of_cell? w _ hx183_3)).trans hx183_3; replace hx183_4 := (HB.out.cell (World.block_lt_of_cell? w _ hx183_4)).trans hx183_4; have HR183_1 := Aside0.mk hi183_1; have HC183_1 := Aside0.mk hl183_1; clear hi183_1 hl183_1; have HR183_2 := Aside0.mk hi183_2; have HC183_2 := Aside0.mk hl183_2; clear hi183_2 hl183_2; have HR183_3 := Aside0.mk hi183_3; have HC183_3 := Aside0.mk hl183_3; clear hi183_3 hl183_3; replace p183 := eq_true p183; replace q183 := eq_true q183) | ((with_reducible refine gate_dst (N := 5) rfl ?_); refine box_event ?hg (N := 5) ?hd (cs := #[.string (⟨#[]⟩ : ByteArray), .slice none 0 0, .slice none 0 0, .slice none 0 0, .int .i64 0]) (t := 58) ?hr ?_; (case hd => rfl); (case hg => rfl); (case hr => first | (go_simp; done) | (go_simp; rfl)); intro gb184 hg w68 hbox hb; have n0_ := Aside0.mk (blk_below (g := gb182) (o := .cells #[.string a0_0, .slice A0_1 l0_1.length c0_1, .slice (some ad183) l0_2.length c0_2] 25 (0, 0)) (by (with_reducible repeat (first | refine blk_drewN ?_ _ | refine blk_drew ?_ | refine blk_alloc ?_ _)); exact BK182.out) hb); have n1_ := Aside0.mk (below_step (by repeat (first | (with_reducible first | exact HB.out | apply below_alloc | apply pw_below_drewN | apply below_drew1 | refine below_set ?_ GE182.out) | exact HB.out)) hb); have n2_ := Aside0.mk (hbox); have n3_ := Aside0.mk ((by rw [hg]; exact (below_size (by repeat (first | (with_reducible first | exact HB.out | apply below_alloc | apply pw_below_drewN | apply below_drew1 | refine below_set ?_ GE182.out) | exact HB.out))) : w.heap.size ≤ gb184)); have n4_ := Aside0.mk ((by rw [hg]; exact (below_size (by repeat (first | (with_reducible first | exact HB.out | apply below_alloc | apply pw_below_drewN | apply below_drew1 | refine below_set ?_ GE182.out) | exact HB.out))) : w.heap.size ≤ gb184)); have n5_ := Aside0.mk ((by rw [hg]; exact Nat.ne_of_lt (blk_lt (g := gb182) (o := .cells #[.string a0_0, .slice A0_1 l0_1.length c0_1, .slice (some ad183) l0_2.length c0_2] 25 (0, 0)) (by (with_reducible repeat (first | refine blk_drewN ?_ _ | refine blk_drew ?_ | refine blk_alloc ?_ _)); exact BK182.out)) : gb182 ≠ gb184)); have n6_ := Aside0.mk ((by rw [hg]; exact Nat.ne_of_gt (blk_lt (g := gb182) (o := .cells #[.string a0_0, .slice A0_1 l0_1.length c0_1, .slice (some ad183) l0_2.length c0_2] 25 (0, 0)) (by (with_reducible repeat (first | refine blk_drewN ?_ _ | refine blk_drew ?_ | refine blk_alloc ?_ _)); exact BK182.out)) : gb184 ≠ gb182)); clear BK182; clear HB; have BK182 := n0_; have HB := n1_; have BK184 := n2_; have GW184 := n3_; have GE184 := n4_; have NB182_184 := n5_; have NB184_182 := n6_; clear n0_ n1_ n2_ n3_ n4_ n5_ n6_; clear hb hbox hg; have hnb69 := NB184_182.out; have hnc69 := NB182_184.out; have hcz70_0 : w68.cell? ⟨gb184, 0, none⟩ = some (.string (⟨#[]⟩ : ByteArray)) := (blk_cell BK184.out 0).trans rfl; have hcz70_1 : w68.cell? ⟨gb184, 1, none⟩ = some (.slice none 0 0) := (blk_cell BK184.out 1).trans rfl; have hcz70_2 : w68.cell? ⟨gb184, 2, none⟩ = some (.slice none 0 0) := (blk_cell BK184.out 2).trans rfl; have hcz70_3 : w68.cell? ⟨gb184, 3, none⟩ = some (.slice none 0 0) := (blk_cell BK184.out 3).trans rfl; have hcz70_4 : w68.cell? ⟨gb184, 4, none⟩ = some (.int .i64 0) := (blk_cell BK184.out 4).trans rfl; have hfz70_0 := blk_frozen BK184.out 0; have hfz70_1 := blk_frozen BK184.out 1; have hfz70_2 := blk_frozen BK184.out 2; have hfz70_3 := blk_frozen BK184.out 3; have hfz70_4 := blk_frozen BK184.out 4) | (go_at_call 57; (with_reducible refine (petrinetref09_Name.calls k ((rd_T58 l0_2 a1).f0) false _ A5.out).mono ?_); rintro e w' ⟨rfl, ⟨nd, rfl⟩⟩; (try first | exact ⟨rfl, _, World.drewN_drewN _ _ _⟩ | exact ⟨rfl, _, Eq.trans (World.drewN_drewN _ _ _) (congrArg (World.drewN _) (Nat.add_assoc _ _ _))⟩)))
        repeat (go_quiet (first | ((with_reducible refine gate_dst (N := 2) rfl ?_); refine box_event ?hg (N := 2) ?hd (cs := #[.string a0_0, .slice A0_1 l0_1.length c0_1, .slice A0_2 l0_2.length c0_2]) (t := 25) ?hr ?_; (case hd => rfl); (case hg => rfl); (case hr => first | (go_simp; done) | (go_simp; rfl)); intro gb182 hg w66 hbox hb; have n0_ := Aside0.mk (below_step (by repeat (first | (with_reducible first | exact HB.out | apply below_alloc | apply pw_below_drewN | apply below_drew1) | exact HB.out)) hb); have n1_ := Aside0.mk (hbox); have n2_ := Aside0.mk ((by rw [hg]; exact (below_size (by repeat (first | (with_reducible first | exact HB.out | apply below_alloc | apply pw_below_drewN | apply below_drew1) | exact HB.out))) : w.heap.size ≤ gb182)); have n3_ := Aside0.mk ((by rw [hg]; exact (below_size (by repeat (first | (with_reducible first | exact HB.out | apply below_alloc | apply pw_below_drewN | apply below_drew1) | exact HB.out))) : w.heap.size ≤ gb182)); clear HB; have HB := n0_; have BK182 := n1_; have GW182 := n2_; have GE182 := n3_; clear n0_ n1_ n2_ n3_; clear hb hbox hg; have hcz67_0 : w66.cell? ⟨gb182, 0, none⟩ = some (.string a0_0) := (blk_cell BK182.out 0).trans rfl; have hcz67_1 : w66.cell? ⟨gb182, 1, none⟩ = some (.slice A0_1 l0_1.length c0_1) := (blk_cell BK182.out 1).trans rfl; have hcz67_2 : w66.cell? ⟨gb182, 2, none⟩ = some (.slice A0_2 l0_2.length c0_2) := (blk_cell BK182.out 2).trans rfl; have hfz67_0 := blk_frozen BK182.out 0; have hfz67_1 := blk_frozen BK182.out 1; have hfz67_2 := blk_frozen BK182.out 2; have p183 : 0 ≤ (a1 : Int) := of_decide_eq_true (by first | (with_reducible assumption) | assumption); have q183 : a1 < (l0_2.length : Int) := of_decide_eq_true (by first | (with_reducible assumption) | assumption); obtain ⟨ad183, A183_1, c183_1, A183_2, c183_2, A183_3, c183_3, e183, hx183_0, hx183_1, hx183_2, hx183_3, hx183_4, hl183_1, hi183_1, hl183_2, hi183_2, hl183_3, hi183_3⟩ := at_T58 HR0_2.out a1 p183 q183; cases e183; replace hx183_0 := (HB.out.cell (World.block_lt_of_cell? w _ hx183_0)).trans hx183_0; replace hx183_1 := (HB.out.cell (World.block_lt_of_cell? w _ hx183_1)).trans hx183_1; replace hx183_2 := (HB.out.cell (World.block_lt_of_cell? w _ hx183_2)).trans hx183_2; replace hx183_3 := (HB.out.cell (World.block_lt_of_cell? w _ hx183_3)).trans hx183_3; replace hx183_4 := (HB.out.cell (World.block_lt_of_cell? w _ hx183_4)).trans hx183_4; have HR183_1 := Aside0.mk hi183_1; have HC183_1 := Aside0.mk hl183_1; clear hi183_1 hl183_1; have HR183_2 := Aside0.mk hi183_2; have HC183_2 := Aside0.mk hl183_2; clear hi183_2 hl183_2; have HR183_3 := Aside0.mk hi183_3; have HC183_3 := Aside0.mk hl183_3; clear hi183_3 hl183_3; replace p183 := eq_true p183; replace q183 := eq_true q183) | ((with_reducible refine gate_dst (N := 5) rfl ?_); refine box_event ?hg (N := 5) ?hd (cs := #[.string (⟨#[]⟩ : ByteArray), .slice none 0 0, .slice none 0 0, .slice none 0 0, .int .i64 0]) (t := 58) ?hr ?_; (case hd => rfl); (case hg => rfl); (case hr => first | (go_simp; done) | (go_simp; rfl)); intro gb184 hg w68 hbox hb; have n0_ := Aside0.mk (blk_below (g := gb182) (o := .cells #[.string a0_0, .slice A0_1 l0_1.length c0_1, .slice (some ad183) l0_2.length c0_2] 25 (0, 0)) (by (with_reducible repeat (first | refine blk_drewN ?_ _ | refine blk_drew ?_ | refine blk_alloc ?_ _)); exact BK182.out) hb); have n1_ := Aside0.mk (below_step (by repeat (first | (with_reducible first | exact HB.out | apply below_alloc | apply pw_below_drewN | apply below_drew1 | refine below_set ?_ GE182.out) | exact HB.out)) hb); have n2_ := Aside0.mk (hbox); have n3_ := Aside0.mk ((by rw [hg]; exact (below_size (by repeat (first | (with_reducible first | exact HB.out | apply below_alloc | apply pw_below_drewN | apply below_drew1 | refine below_set ?_ GE182.out) | exact HB.out))) : w.heap.size ≤ gb184)); have n4_ := Aside0.mk ((by rw [hg]; exact (below_size (by repeat (first | (with_reducible first | exact HB.out | apply below_alloc | apply pw_below_drewN | apply below_drew1 | refine below_set ?_ GE182.out) | exact HB.out))) : w.heap.size ≤ gb184)); have n5_ := Aside0.mk ((by rw [hg]; exact Nat.ne_of_lt (blk_lt (g := gb182) (o := .cells #[.string a0_0, .slice A0_1 l0_1.length c0_1, .slice (some ad183) l0_2.length c0_2] 25 (0, 0)) (by (with_reducible repeat (first | refine blk_drewN ?_ _ | refine blk_drew ?_ | refine blk_alloc ?_ _)); exact BK182.out)) : gb182 ≠ gb184)); have n6_ := Aside0.mk ((by rw [hg]; exact Nat.ne_of_gt (blk_lt (g := gb182) (o := .cells #[.string a0_0, .slice A0_1 l0_1.length c0_1, .slice (some ad183) l0_2.length c0_2] 25 (0, 0)) (by (with_reducible repeat (first | refine blk_drewN ?_ _ | refine blk_drew ?_ | refine blk_alloc ?_ _)); exact BK182.out)) : gb184 ≠ gb182)); clear BK182; clear HB; have BK182 := n0_; have HB := n1_; have BK184 := n2_; have GW184 := n3_; have GE184 := n4_; have NB182_184 := n5_; have NB184_182 := n6_; clear n0_ n1_ n2_ n3_ n4_ n5_ n6_; clear hb hbox hg; have hnb69 := NB184_182.out; have hnc69 := NB182_184.out; have hcz70_0 : w68.cell? ⟨gb184, 0, none⟩ = some (.string (⟨#[]⟩ : ByteArray)) := (blk_cell BK184.out 0).trans rfl; have hcz70_1 : w68.cell? ⟨gb184, 1, none⟩ = some (.slice none 0 0) := (blk_cell BK184.out 1).trans rfl; have hcz70_2 : w68.cell? ⟨gb184, 2, none⟩ = some (.slice none 0 0) := (blk_cell BK184.out 2).trans rfl; have hcz70_3 : w68.cell? ⟨gb184, 3, none⟩ = some (.slice none 0 0) := (blk_cell BK184.out 3).trans rfl; have hcz70_4 : w68.cell? ⟨gb184, 4, none⟩ = some (.int .i64 0) := (blk_cell BK184.out 4).trans rfl; have hfz70_0 := blk_frozen BK184.out 0; have hfz70_1 := blk_frozen BK184.out 1; have hfz70_2 := blk_frozen BK184.out 2; have hfz70_3 := blk_frozen BK184.out 3; have hfz70_4 := blk_frozen BK184.out 4) | (go_at_call 57; (with_reducible refine (petrinetref09_Name.calls k ((rd_T58 l0_2 a1).f0) false _ A5.out).mono ?_); rintro e w' ⟨rfl, ⟨nd, rfl⟩⟩; (try first | exact ⟨rfl, _, World.drewN_drewN _ _ _⟩ | exact ⟨rfl, _, Eq.trans (World.drewN_drewN _ _ _) (congrArg (World.drewN _) (Nat.add_assoc _ _ _))⟩))); try go_wp2_with (first | ((with_reducible refine gate_dst (N := 2) rfl ?_); refine box_event ?hg (N := 2) ?hd (cs := #[.string a0_0, .slice A0_1 l0_1.length c0_1, .slice A0_2 l0_2.length c0_2]) (t := 25) ?hr ?_; (case hd => rfl); (case hg => rfl); (case hr => first | (go_simp; done) | (go_simp; rfl)); intro gb182 hg w66 hbox hb; have n0_ := Aside0.mk (below_step (by repeat (first | (with_reducible first | exact HB.out | apply below_alloc | apply pw_below_drewN | apply below_drew1) | exact HB.out)) hb); have n1_ := Aside0.mk (hbox); have n2_ := Aside0.mk ((by rw [hg]; exact (below_size (by repeat (first | (with_reducible first | exact HB.out | apply below_alloc | apply pw_below_drewN | apply below_drew1) | exact HB.out))) : w.heap.size ≤ gb182)); have n3_ := Aside0.mk ((by rw [hg]; exact (below_size (by repeat (first | (with_reducible first | exact HB.out | apply below_alloc | apply pw_below_drewN | apply below_drew1) | exact HB.out))) : w.heap.size ≤ gb182)); clear HB; have HB := n0_; have BK182 := n1_; have GW182 := n2_; have GE182 := n3_; clear n0_ n1_ n2_ n3_; clear hb hbox hg; have hcz67_0 : w66.cell? ⟨gb182, 0, none⟩ = some (.string a0_0) := (blk_cell BK182.out 0).trans rfl; have hcz67_1 : w66.cell? ⟨gb182, 1, none⟩ = some (.slice A0_1 l0_1.length c0_1) := (blk_cell BK182.out 1).trans rfl; have hcz67_2 : w66.cell? ⟨gb182, 2, none⟩ = some (.slice A0_2 l0_2.length c0_2) := (blk_cell BK182.out 2).trans rfl; have hfz67_0 := blk_frozen BK182.out 0; have hfz67_1 := blk_frozen BK182.out 1; have hfz67_2 := blk_frozen BK182.out 2; have p183 : 0 ≤ (a1 : Int) := of_decide_eq_true (by first | (with_reducible assumption) | assumption); have q183 : a1 < (l0_2.length : Int) := of_decide_eq_true (by first | (with_reducible assumption) | assumption); obtain ⟨ad183, A183_1, c183_1, A183_2, c183_2, A183_3, c183_3, e183, hx183_0, hx183_1, hx183_2, hx183_3, hx183_4, hl183_1, hi183_1, hl183_2, hi183_2, hl183_3, hi183_3⟩ := at_T58 HR0_2.out a1 p183 q183; cases e183; replace hx183_0 := (HB.out.cell (World.block_lt_of_cell? w _ hx183_0)).trans hx183_0; replace hx183_1 := (HB.out.cell (World.block_lt_of_cell? w _ hx183_1)).trans hx183_1; replace hx183_2 := (HB.out.cell (World.block_lt_of_cell? w _ hx183_2)).trans hx183_2; replace hx183_3 := (HB.out.cell (World.block_lt_of_cell? w _ hx183_3)).trans hx183_3; replace hx183_4 := (HB.out.cell (World.block_lt_of_cell? w _ hx183_4)).trans hx183_4; have HR183_1 := Aside0.mk hi183_1; have HC183_1 := Aside0.mk hl183_1; clear hi183_1 hl183_1; have HR183_2 := Aside0.mk hi183_2; have HC183_2 := Aside0.mk hl183_2; clear hi183_2 hl183_2; have HR183_3 := Aside0.mk hi183_3; have HC183_3 := Aside0.mk hl183_3; clear hi183_3 hl183_3; replace p183 := eq_true p183; replace q183 := eq_true q183) | ((with_reducible refine gate_dst (N := 5) rfl ?_); refine box_event ?hg (N := 5) ?hd (cs := #[.string (⟨#[]⟩ : ByteArray), .slice none 0 0, .slice none 0 0, .slice none 0 0, .int .i64 0]) (t := 58) ?hr ?_; (case hd => rfl); (case hg => rfl); (case hr => first | (go_simp; done) | (go_simp; rfl)); intro gb184 hg w68 hbox hb; have n0_ := Aside0.mk (blk_below (g := gb182) (o := .cells #[.string a0_0, .slice A0_1 l0_1.length c0_1, .slice (some ad183) l0_2.length c0_2] 25 (0, 0)) (by (with_reducible repeat (first | refine blk_drewN ?_ _ | refine blk_drew ?_ | refine blk_alloc ?_ _)); exact BK182.out) hb); have n1_ := Aside0.mk (below_step (by repeat (first | (with_reducible first | exact HB.out | apply below_alloc | apply pw_below_drewN | apply below_drew1 | refine below_set ?_ GE182.out) | exact HB.out)) hb); have n2_ := Aside0.mk (hbox); have n3_ := Aside0.mk ((by rw [hg]; exact (below_size (by repeat (first | (with_reducible first | exact HB.out | apply below_alloc | apply pw_below_drewN | apply below_drew1 | refine below_set ?_ GE182.out) | exact HB.out))) : w.heap.size ≤ gb184)); have n4_ := Aside0.mk ((by rw [hg]; exact (below_size (by repeat (first | (with_reducible first | exact HB.out | apply below_alloc | apply pw_below_drewN | apply below_drew1 | refine below_set ?_ GE182.out) | exact HB.out))) : w.heap.size ≤ gb184)); have n5_ := Aside0.mk ((by rw [hg]; exact Nat.ne_of_lt (blk_lt (g := gb182) (o := .cells #[.string a0_0, .slice A0_1 l0_1.length c0_1, .slice (some ad183) l0_2.length c0_2] 25 (0, 0)) (by (with_reducible repeat (first | refine blk_drewN ?_ _ | refine blk_drew ?_ | refine blk_alloc ?_ _)); exact BK182.out)) : gb182 ≠ gb184)); have n6_ := Aside0.mk ((by rw [hg]; exact Nat.ne_of_gt (blk_lt (g := gb182) (o := .cells #[.string a0_0, .slice A0_1 l0_1.length c0_1, .slice (some ad183) l0_2.length c0_2] 25 (0, 0)) (by (with_reducible repeat (first | refine blk_drewN ?_ _ | refine blk_drew ?_ | refine blk_alloc ?_ _)); exact BK182.out)) : gb184 ≠ gb182)); clear BK182; clear HB; have BK182 := n0_; have HB := n1_; have BK184 := n2_; have GW184 := n3_; have GE184 := n4_; have NB182_184 := n5_; have NB184_182 := n6_; clear n0_ n1_ n2_ n3_ n4_ n5_ n6_; clear hb hbox hg; have hnb69 := NB184_182.out; have hnc69 := NB182_184.out; have hcz70_0 : w68.cell? ⟨gb184, 0, none⟩ = some (.string (⟨#[]⟩ : ByteArray)) := (blk_cell BK184.out 0).trans rfl; have hcz70_1 : w68.cell? ⟨gb184, 1, none⟩ = some (.slice none 0 0) := (blk_cell BK184.out 1).trans rfl; have hcz70_2 : w68.cell? ⟨gb184, 2, none⟩ = some (.slice none 0 0) := (blk_cell BK184.out 2).trans rfl; have hcz70_3 : w68.cell? ⟨gb184, 3, none⟩ = some (.slice none 0 0) := (blk_cell BK184.out 3).trans rfl; have hcz70_4 : w68.cell? ⟨gb184, 4, none⟩ = some (.int .i64 0) := (blk_cell BK184.out 4).trans rfl; have hfz70_0 := blk_frozen BK184.out 0; have hfz70_1 := blk_frozen BK184.out 1; have hfz70_2 := blk_frozen BK184.out 2; have hfz70_3 := blk_frozen BK184.out 3; have hfz70_4 := blk_frozen BK184.out 4) | (go_at_call 57; (with_reducible refine (petrinetref09_Name.calls k ((rd_T58 l0_2 a1).f0) false _ A5.out).mono ?_); rintro e w' ⟨rfl, ⟨nd, rfl⟩⟩; (try first | exact ⟨rfl, _, World.drewN_drewN _ _ _⟩ | exact ⟨rfl, _, Eq.trans (World.drewN_drewN _ _ _) (congrArg (World.drewN _) (Nat.add_assoc _ _ _))⟩))))
        go_ret
        exact ⟨by first | rfl | (simp [errW_none, errW_some] <;> rfl) | (simp [*, errW_none, errW_some] <;> rfl), by repeat (first | (with_reducible first | exact HB.out | apply below_alloc | apply pw_below_drewN | apply below_drew1 | refine below_set ?_ GE182.out | refine below_set ?_ GE184.out) | exact HB.out)⟩
    · rw [if_neg c4] at H
      exact absurd H (by simp)
  · rw [if_neg c3] at H
    exact absurd H (by simp)

end Go.Proofs.Ytiamncgagfjegaa.Hy
