/- By hand (up_lives): a part of this seat's proofs. -/
import Derived.Test.YtliagbliaiigaaaXMeet
import Derived.Test.YtliagbliaiigaaaH4
namespace Go.Proofs.Ytliagbliaiigaaa.Hy
open Go.RowKit Go.Shelf Go.Proofs.YtliagbliaiigaaaW.PrintWords Go.Proofs.YtliagbliaiigaaaW.PrintLast Go.Proofs.YtliagbliaiigaaaW.PrintMore
set_option linter.unusedVariables false
set_option linter.unusedSimpArgs false
attribute [local go_sem] Oper.semAt_some
/-! ### lives, walked by hand -/
theorem kM_lit {W : World} {g : Nat} {vals : List Value} {xs : List (List Int)} (hg : W.heap[g]? = some (.cells vals.toArray 28 (0, 0))) (hl : vals.length = xs.length) (hx : xs.length ≤ 1000)
    (h : ∀ j, j < xs.length → ∃ gj, vals.getD j nilV = .slice (some ⟨gj, 0, none⟩) (xs.getD j []).length (xs.getD j []).length ∧ W.heap[gj]? = some (.cells (nums .i64 (xs.getD j [])).toArray 3 (0, 0)) ∧ (xs.getD j []).length ≤ 1000) : kM.C W (some ⟨g, 0, none⟩) xs.length xs := by
  refine ⟨rfl, by omega, fun _ => ⟨_, rfl, fun j p hp => ?_⟩⟩
  have hj : j < xs.length := (List.getElem?_eq_some_iff.1 hp).1
  have e : xs.getD j [] = p := by rw [List.getD_eq_getElem?_getD, hp]; rfl
  obtain ⟨gj, hv, hh, hle⟩ := h j hj
  rw [e] at hv hh hle
  refine ⟨[.slice (some ⟨gj, 0, none⟩) p.length p.length], rfl, ⟨_, _, rfl, Nat.le_refl _, (Kd.R_reads' (row_fresh (B := gj) (Nat.le_refl _) hh (by omega))).2.2⟩, fun i u hu => ?_⟩
  have hi : i = 0 := by
    have := (List.getElem?_eq_some_iff.1 hu).1
    simpa using this
  subst hi
  have hu' : u = .slice (some ⟨gj, 0, none⟩) p.length p.length := by simpa using hu.symm
  subst hu'
  have hs : (Kd.slice 3 (Kd.int .i64)).sz = 1 := rfl
  rw [hs, Nat.mul_one, Nat.add_zero, add_at, Nat.zero_add, blk_cell hg, List.getElem?_toArray, List.getElem?_eq_getElem (by omega)]
  rw [List.getD_eq_getElem?_getD, List.getElem?_eq_getElem (by omega)] at hv
  exact congrArg some hv
theorem lit2 (W : World) (g : Nat) (x y : Int) (h : W.heap[g]? = some (.cells #[.int .i64 x, .int .i64 y] 3 (0, 0))) : W.heap[g]? = some (.cells (nums .i64 [x, y]).toArray 3 (0, 0)) := h
theorem two_cells {W : World} {A : Option Addr} {x y : Int} (h : (Kd.int .i64).C W A 2 [x, y]) : ∃ ad, A = some ad ∧ W.cell? ad = some (.int .i64 x) ∧ W.cell? (ad.add 1) = some (.int .i64 y) := by
  obtain ⟨ad, rfl, h0⟩ := int_at h 0 (by decide)
  obtain ⟨ad2, e, h1⟩ := int_at h 1 (by decide)
  cases e
  exact ⟨ad, rfl, h0, h1⟩
theorem make_un (w : World) (A : Option Addr) (c : Nat) (l r : List (List Int)) (hr : kM.C w A l.length l) (hc : l.length ≤ c) (hl : l.length ≤ 1000000) (hm : ∀ m ∈ l, m.length ≤ 1000000) (he : makeL l = r) :
    Calls Try.prog 13 #[.slice A l.length c] w (UnPost w r) := by
  subst he
  exact (make_calls w A c l hr hc hl hm).mono fun e w' h => h
theorem meet_un (w : World) (A : Option Addr) (c : Nat) (a : List (List Int)) (A2 : Option Addr) (c2 : Nat) (b r : List (List Int)) (hr : kM.C w A a.length a) (hc : a.length ≤ c) (hr2 : kM.C w A2 b.length b) (hc2 : b.length ≤ c2) (hok : okIn a ∧ okIn b ∧ a.length * b.length ≤ 1000000) (he : meetL a b = r) :
    Calls Try.prog 21 #[.slice A a.length c, .slice A2 b.length c2] w (UnPost w r) := by
  subst he
  exact meet_calls w A c a A2 c2 b hr hc hr2 hc2 hok.1 hok.2.1 hok.2.2
theorem union_un (w : World) (A : Option Addr) (c : Nat) (a : List (List Int)) (A2 : Option Addr) (c2 : Nat) (b r : List (List Int)) (hr : kM.C w A a.length a) (hc : a.length ≤ c) (hr2 : kM.C w A2 b.length b) (hc2 : b.length ≤ c2) (hok : okIn (a ++ b)) (he : unionL a b = r) :
    Calls Try.prog 19 #[.slice A a.length c, .slice A2 b.length c2] w (UnPost w r) := by
  subst he
  exact union_calls w A c a A2 c2 b hr hc hr2 hc2 hok
theorem has_un (w : World) (A : Option Addr) (c : Nat) (u : List (List Int)) (Am : Option Addr) (cm : Nat) (m : List Int) (b : Bool) (hr : kM.C w A u.length u) (hc : u.length ≤ c) (hm : (Kd.int .i64).C w Am m.length m) (hcm : m.length ≤ cm) (hok : okIn u ∧ m.length ≤ 1000000) (he : hasL u m = b) :
    Calls Try.prog 17 #[.slice A u.length c, .slice Am m.length cm] w fun e w' => e = .returned (.bool b) ∧ Below w.heap.size w w' := by
  subst he
  exact has_calls w A c u Am cm m hr hc hm hcm hok.1 hok.2
theorem sub_un (w : World) (A : Option Addr) (c : Nat) (a : List (List Int)) (A2 : Option Addr) (c2 : Nat) (b : List (List Int)) (r : Bool) (hr : kM.C w A a.length a) (hc : a.length ≤ c) (hr2 : kM.C w A2 b.length b) (hc2 : b.length ≤ c2) (hok : okIn a ∧ okIn b) (he : subL a b = r) :
    Calls Try.prog 23 #[.slice A a.length c, .slice A2 b.length c2] w fun e w' => e = .returned (.bool r) ∧ Below w.heap.size w w' := by
  subst he
  exact subset_calls w A c a A2 c2 b hr hc hr2 hc2 hok.1 hok.2
theorem valid_un (w : World) (A : Option Addr) (c : Nat) (u : List (List Int)) (n : Int) (b : Bool) (hr : kM.C w A u.length u) (hc : u.length ≤ c) (hok : okIn u) (he : validL u n = b) :
    Calls Try.prog 15 #[.slice A u.length c, .int .i64 n] w fun e w' => e = .returned (.bool b) ∧ Below w.heap.size w w' := by
  subst he
  exact valid_calls w A c u n hr hc hok
theorem lit_C (w : World) (x y : Int) : (Kd.int .i64).C (w.alloc (.cells #[.int .i64 x, .int .i64 y] 3)) (some ⟨w.heap.size, 0, none⟩) 2 [x, y] :=
  (Kd.R_reads' (row_fresh (B := w.heap.size) (x := [x, y]) (Nat.le_refl _) (blk_new w (.cells #[.int .i64 x, .int .i64 y] 3)) (by simp))).2.2
/-- two lists of one marking each, laid one behind the other -/
theorem pair_lit (w : World) : ∃ w2, w2 = ((((w.alloc (.cells #[.int .i64 1, .int .i64 0] 3)).alloc (.cells #[.slice (some ⟨w.heap.size, 0, none⟩) 2 2] 28)).alloc (.cells #[.int .i64 0, .int .i64 2] 3)).alloc (.cells #[.slice (some ⟨w.heap.size + 1 + 1, 0, none⟩) 2 2] 28)) ∧
    Below w.heap.size w w2 ∧ kM.C w2 (some ⟨w.heap.size + 1, 0, none⟩) 1 [[1, 0]] ∧ kM.C w2 (some ⟨w.heap.size + 1 + 1 + 1, 0, none⟩) 1 [[0, 2]] := by
  have H := ((((Held.refl w).push (.cells #[.int .i64 1, .int .i64 0] 3)).push (.cells #[.slice (some ⟨w.heap.size, 0, none⟩) 2 2] 28)).push (.cells #[.int .i64 0, .int .i64 2] 3)).push (.cells #[.slice (some ⟨w.heap.size + 1 + 1, 0, none⟩) 2 2] 28)
  simp only [World.size_alloc] at H
  refine ⟨_, rfl, H.bel, ?_, ?_⟩
  · exact kM_lit (xs := [[1, 0]]) (H.blk 2 rfl) rfl (by decide +kernel) (by
      intro j hj
      obtain rfl : j = 0 := by simpa using hj
      exact ⟨_, rfl, H.blk 3 rfl, by decide +kernel⟩)
  · exact kM_lit (xs := [[0, 2]]) (H.blk 0 rfl) rfl (by decide +kernel) (by
      intro j hj
      obtain rfl : j = 0 := by simpa using hj
      exact ⟨_, rfl, H.blk 1 rfl, by decide +kernel⟩)
set_option maxRecDepth 100000 in
set_option maxHeartbeats 8000000 in
theorem lives_in (w : World) : Calls Try.prog 11 #[] w fun e w' => e = .returned (.bool true) ∧ Below w.heap.size w w' := by
  have H := ((((Held.refl w).push (.cells #[.int .i64 1, .int .i64 0] 3)).push (.cells #[.int .i64 2, .int .i64 0] 3)).push (.cells #[.int .i64 0, .int .i64 3] 3)).push (.cells #[.slice (some ⟨w.heap.size, 0, none⟩) 2 2, .slice (some ⟨w.heap.size + 1, 0, none⟩) 2 2, .slice (some ⟨w.heap.size + 1 + 1, 0, none⟩) 2 2] 28)
  simp only [World.size_alloc] at H
  have hC1 := kM_lit (xs := [[1, 0], [2, 0], [0, 3]]) (H.blk 0 rfl) rfl (by decide +kernel) (by
    intro j hj
    rcases (show j = 0 ∨ j = 1 ∨ j = 2 by simp at hj; omega) with rfl | rfl | rfl
    · exact ⟨_, rfl, H.blk 3 rfl, by decide +kernel⟩
    · exact ⟨_, rfl, H.blk 2 rfl, by decide +kernel⟩
    · exact ⟨_, rfl, H.blk 1 rfl, by decide +kernel⟩)
  have hmk := Aside0.mk (make_un _ _ 3 [[1, 0], [2, 0], [0, 3]] [[0, 3], [1, 0]] hC1 (by decide +kernel) (by decide +kernel) (by decide +kernel) (by decide +kernel))
  have hbel := Aside0.mk H.bel
  clear H hC1
  go_enter Try.func11, Try.ntmps11
  go_wp2_with fail
  refine hmk.out.mono ?_
  rintro e w1 ⟨va, rfl, hSa, hb1⟩
  obtain ⟨Aa, ca, rfl, hca, hCa⟩ := Kd.S_reads hSa
  have hb01 := hbel.out.trans (hb1.mono hbel.out.size)
  obtain ⟨w2, hw2, hb12, hx, hy⟩ := pair_lit w1
  have hCa2 := Kd.C_below hCa hb12
  have hb02 := Aside0.mk (hb01.trans (hb12.mono hb01.size))
  have hmt := Aside0.mk (meet_un w2 _ 1 [[1, 0]] _ 1 [[0, 2]] [[1, 2]] hx (by decide +kernel) hy (by decide +kernel) (by decide +kernel) (by decide +kernel))
  replace hCa2 := Aside0.mk hCa2
  subst hw2
  clear hSa hb1 hb01 hb12 hx hy hCa hmk hbel
  go_wp2_with fail
  refine hmt.out.mono ?_
  rintro e w3 ⟨vb, rfl, hSb, hb3⟩
  obtain ⟨Ab, cb, rfl, hcb, hCb⟩ := Kd.S_reads hSb
  have hCa3 := Kd.C_below hCa2.out hb3
  have hb03 := hb02.out.trans (hb3.mono hb02.out.size)
  obtain ⟨w4, hw4, hb34, hx, hy⟩ := pair_lit w3
  have hCa4 := Aside0.mk (Kd.C_below hCa3 hb34)
  have hCb4 := Aside0.mk (Kd.C_below hCb hb34)
  have hb04 := Aside0.mk (hb03.trans (hb34.mono hb03.size))
  have hun := Aside0.mk (union_un w4 _ 1 [[1, 0]] _ 1 [[0, 2]] [[0, 2], [1, 0]] hx (by decide +kernel) hy (by decide +kernel) (by decide +kernel) (by decide +kernel))
  subst hw4
  clear hSb hb3 hb03 hb34 hx hy hCb hCa3 hmt hb02 hCa2
  go_wp2_with fail
  refine hun.out.mono ?_
  rintro e w5 ⟨vc, rfl, hSc, hb5⟩
  obtain ⟨Ac, cc, rfl, hcc, hCc⟩ := Kd.S_reads hSc
  have hCa5 := Aside0.mk (Kd.C_below hCa4.out hb5)
  have hCb5 := Aside0.mk (Kd.C_below hCb4.out hb5)
  have hb05 := Aside0.mk (hb04.out.trans (hb5.mono hb04.out.size))
  replace hCc := Aside0.mk hCc
  clear hSc hb5 hun hb04 hCb4 hCa4
  obtain ⟨ada, A0, c0, rfl, g0, _, k0⟩ := rowsM_at hCa5.out 0 (by decide)
  obtain ⟨ada', A1, c1, e1, g1, _, k1⟩ := rowsM_at hCa5.out 1 (by decide)
  cases e1
  obtain ⟨adb, B0, d0, rfl, gb0, _, kb0⟩ := rowsM_at hCb5.out 0 (by decide)
  have g0' : w5.cell? ada = some (.slice A0 2 c0) := g0
  have g1' : w5.cell? (ada.add 1) = some (.slice A1 2 c1) := g1
  have gb0' : w5.cell? adb = some (.slice B0 2 d0) := gb0
  obtain ⟨ad0, rfl, q00, q01⟩ := two_cells (x := 0) (y := 3) k0
  obtain ⟨ad1, rfl, q10, q11⟩ := two_cells (x := 1) (y := 0) k1
  obtain ⟨bd0, rfl, r00, r01⟩ := two_cells (x := 1) (y := 2) kb0
  have g1'' : w5.cell? { block := ada.block, off := ada.off + 1 } = some (.slice (some ad1) 2 c1) := g1
  have q01' : w5.cell? { block := ad0.block, off := ad0.off + 1 } = some (.int .i64 3) := q01
  have q11' : w5.cell? { block := ad1.block, off := ad1.off + 1 } = some (.int .i64 0) := q11
  have r01' : w5.cell? { block := bd0.block, off := bd0.off + 1 } = some (.int .i64 2) := r01
  clear g0 g1 gb0 k0 k1 kb0 q01 q11 r01 g1'
  have hh1 := Aside0.mk (has_un _ (some ada) ca [[0, 3], [1, 0]] _ 2 [1, 0] true (Kd.C_below hCa5.out (below_alloc (Below.refl _ _) _)) hca (lit_C w5 1 0) (Nat.le_refl _) (by decide +kernel) (by decide +kernel))
  have hba := Aside0.mk (hb05.out.trans ((below_alloc (Below.refl w5.heap.size w5) (.cells #[.int .i64 1, .int .i64 0] 3)).mono hb05.out.size))
  have hCa6 := Aside0.mk (Kd.C_below hCa5.out (below_alloc (Below.refl _ _) (.cells #[.int .i64 1, .int .i64 0] 3)))
  have hCb6 := Aside0.mk (Kd.C_below hCb5.out (below_alloc (Below.refl _ _) (.cells #[.int .i64 1, .int .i64 0] 3)))
  have hCc6 := Aside0.mk (Kd.C_below hCc.out (below_alloc (Below.refl _ _) (.cells #[.int .i64 1, .int .i64 0] 3)))
  go_wp2_with fail
  clear g0' g1'' gb0' q00 q01' q10 q11' r00 r01' hCa5 hCb5 hCc
  refine hh1.out.mono ?_
  rintro e w6 ⟨rfl, hb6⟩
  have hb06 := hba.out.trans (hb6.mono hba.out.size)
  have hCa7 := Kd.C_below hCa6.out hb6
  have hCb7 := Kd.C_below hCb6.out hb6
  have hCc7 := Kd.C_below hCc6.out hb6
  have ha6 := below_alloc (Below.refl w6.heap.size w6) (.cells #[.int .i64 0, .int .i64 2] 3)
  have hh2 := Aside0.mk (has_un _ (some ada) ca [[0, 3], [1, 0]] _ 2 [0, 2] false (Kd.C_below hCa7 ha6) hca (lit_C w6 0 2) (Nat.le_refl _) (by decide +kernel) (by decide +kernel))
  have hb07 := Aside0.mk (hb06.trans (ha6.mono hb06.size))
  have hCa8 := Aside0.mk (Kd.C_below hCa7 ha6)
  have hCb8 := Aside0.mk (Kd.C_below hCb7 ha6)
  have hCc8 := Aside0.mk (Kd.C_below hCc7 ha6)
  clear hh1 hba hb6 hb06 hCa7 hCb7 hCc7 ha6 hCa6 hCb6 hCc6
  go_wp2_with fail
  refine hh2.out.mono ?_
  rintro e w7 ⟨rfl, hb7⟩
  have hCa9 := Aside0.mk (Kd.C_below hCa8.out hb7)
  have hCb9 := Aside0.mk (Kd.C_below hCb8.out hb7)
  have hCc9 := Aside0.mk (Kd.C_below hCc8.out hb7)
  have hb08 := Aside0.mk (hb07.out.trans (hb7.mono hb07.out.size))
  have hs1 := Aside0.mk (sub_un w7 (some adb) cb [[1, 2]] Ac cc [[0, 2], [1, 0]] true hCb9.out hcb hCc9.out hcc (by decide +kernel) (by decide +kernel))
  clear hh2 hb7 hCa8 hCb8 hCc8 hb07
  go_wp2_with fail
  refine hs1.out.mono ?_
  rintro e w8 ⟨rfl, hb8⟩
  have hCa10 := Aside0.mk (Kd.C_below hCa9.out hb8)
  have hCb10 := Aside0.mk (Kd.C_below hCb9.out hb8)
  have hCc10 := Aside0.mk (Kd.C_below hCc9.out hb8)
  have hb09 := Aside0.mk (hb08.out.trans (hb8.mono hb08.out.size))
  have hs2 := Aside0.mk (sub_un w8 Ac cc [[0, 2], [1, 0]] (some adb) cb [[1, 2]] false hCc10.out hcc hCb10.out hcb (by decide +kernel) (by decide +kernel))
  clear hs1 hb8 hCa9 hCb9 hCc9 hb08
  go_wp2_with fail
  refine hs2.out.mono ?_
  rintro e w9 ⟨rfl, hb9⟩
  have hCa11 := Aside0.mk (Kd.C_below hCa10.out hb9)
  have hb10 := Aside0.mk (hb09.out.trans (hb9.mono hb09.out.size))
  have hsm := Aside0.mk (upset_Same.calls (some ada) ca [[0, 3], [1, 0]] (some ada) ca [[0, 3], [1, 0]] true w9 hCa11.out hca hCa11.out hca (by decide +kernel))
  clear hs2 hb9 hCa10 hCb10 hCc10 hb09
  go_wp2_with fail
  refine hsm.out.mono ?_
  rintro e w10 ⟨rfl, hb11⟩
  have hCa12 := Aside0.mk (Kd.C_below hCa11.out hb11)
  have hb12 := Aside0.mk (hb10.out.trans (hb11.mono hb10.out.size))
  have hv1 := Aside0.mk (valid_un w10 (some ada) ca [[0, 3], [1, 0]] 2 true hCa12.out hca (by decide +kernel) (by decide +kernel))
  clear hsm hb11 hCa11 hb10
  go_wp2_with fail
  refine hv1.out.mono ?_
  rintro e w11 ⟨rfl, hb13⟩
  have hCa13 := Aside0.mk (Kd.C_below hCa12.out hb13)
  have hb14 := Aside0.mk (hb12.out.trans (hb13.mono hb12.out.size))
  have hv2 := Aside0.mk (valid_un w11 (some ada) ca [[0, 3], [1, 0]] 3 false hCa13.out hca (by decide +kernel) (by decide +kernel))
  clear hv1 hb13 hCa12 hb12
  go_wp2_with fail
  refine hv2.out.mono ?_
  rintro e w12 ⟨rfl, hb15⟩
  have hb16 := Aside0.mk (hb14.out.trans (hb15.mono hb14.out.size))
  clear hv2 hb15 hCa13 hb14
  go_wp2
  go_ret
  exact ⟨rfl, hb16.out⟩
def petrinetlaw21_lives.f : Option (Bool) := some true
theorem petrinetlaw21_lives.calls (r : Bool) (w : World) (h : petrinetlaw21_lives.f = some r) :
    Calls Try.prog 11 #[] w fun e w' => e = .returned (.bool r) ∧ Below w.heap.size w w' := by
  injection h with h
  subst h
  exact lives_in w

end Go.Proofs.Ytliagbliaiigaaa.Hy
