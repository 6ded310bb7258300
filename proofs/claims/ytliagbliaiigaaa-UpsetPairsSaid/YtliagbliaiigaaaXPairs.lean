/- By hand (up_lat0, up_pairs, up_pairslaw): a part of this seat's proofs. -/
import Derived.Test.YtliagbliaiigaaaXRef
import Derived.Test.YtliagbliaiigaaaH13
import Derived.Test.YtliagbliaiigaaaH15
import Derived.Test.YtliagbliaiigaaaH16
import Derived.Test.YtliagbliaiigaaaH14
namespace Go.Proofs.Ytliagbliaiigaaa.Hy
open Go.RowKit Go.Shelf Go.Proofs.YtliagbliaiigaaaW.PrintWords Go.Proofs.YtliagbliaiigaaaW.PrintLast Go.Proofs.YtliagbliaiigaaaW.PrintMore
set_option linter.unusedVariables false
set_option linter.unusedSimpArgs false
attribute [local go_sem] Oper.semAt_some
/-! ### UpsetLattice -/
theorem use_app {a b : List (List Int)} {x y : List Int} (hx : x ∈ useL a) (hy : y ∈ useL b) (hxy : x.length = y.length) : useL (a ++ b) = useL a ++ useL b := by
  have ha : ∃ m0, a.find? goodB = some m0 := by
    cases h : a.find? goodB with
    | none => unfold useL at hx; rw [h] at hx; cases hx
    | some m0 => exact ⟨m0, rfl⟩
  have hb : ∃ m1, b.find? goodB = some m1 := by
    cases h : b.find? goodB with
    | none => unfold useL at hy; rw [h] at hy; cases hy
    | some m1 => exact ⟨m1, rfl⟩
  obtain ⟨m0, ha⟩ := ha
  obtain ⟨m1, hb⟩ := hb
  have e : (a ++ b).find? goodB = some m0 := by rw [List.find?_append, ha]; rfl
  unfold useL at hx hy ⊢
  rw [ha] at hx
  rw [hb] at hy
  simp only [List.mem_filter, Bool.and_eq_true, decide_eq_true_eq] at hx hy
  have hl : m0.length = m1.length := by omega
  rw [e, ha, hb]
  simp only [List.filter_append, hl]
theorem has_union {a b : List (List Int)} {x y : List Int} (hx : x ∈ useL a) (hy : y ∈ useL b) (hxy : x.length = y.length) (m : List Int) : hasL (unionL a b) m = (hasL a m || hasL b m) := by
  rw [unionL, hasL_make]
  apply Bool.eq_iff_iff.2
  rw [Bool.or_eq_true, hasL_iff, hasL_iff, hasL_iff, use_app hx hy hxy]
  constructor
  · rintro ⟨hv, z, hz, hle⟩
    rcases List.mem_append.1 hz with hz | hz
    · exact .inl ⟨hv, z, hz, hle⟩
    · exact .inr ⟨hv, z, hz, hle⟩
  · rintro (⟨hv, z, hz, hle⟩ | ⟨hv, z, hz, hle⟩)
    · exact ⟨hv, z, List.mem_append_left _ hz, hle⟩
    · exact ⟨hv, z, List.mem_append_right _ hz, hle⟩
theorem zip_leq : ∀ (x y m : List Int), x.length = y.length → (leqL (List.zipWith mx x y) m = true ↔ leqL x m = true ∧ leqL y m = true)
  | [], [], m, _ => by cases m <;> simp [leqL]
  | [], _ :: _, _, h => by simp at h
  | _ :: _, [], _, h => by simp at h
  | a :: x, b :: y, [], _ => by simp [leqL]
  | a :: x, b :: y, c :: m, h => by
    have ih := zip_leq x y m (by simpa using h)
    simp only [List.zipWith_cons_cons, leqL, Bool.and_eq_true, decide_eq_true_eq, ih]
    have hm : mx a b ≤ c ↔ a ≤ c ∧ b ≤ c := by unfold mx; split <;> omega
    rw [hm]
    constructor
    · rintro ⟨⟨h1, h2⟩, h3, h4⟩; exact ⟨⟨h1, h3⟩, h2, h4⟩
    · rintro ⟨⟨h1, h3⟩, h2, h4⟩; exact ⟨⟨h1, h2⟩, h3, h4⟩
theorem max_vld : ∀ (x y : List Int), vldL x = true → vldL y = true → vldL (List.zipWith mx x y) = true
  | [], _, _, _ => rfl
  | _ :: _, [], _, _ => rfl
  | a :: x, b :: y, h1, h2 => by
    simp only [vldL, List.all_cons, Bool.and_eq_true, List.zipWith_cons_cons] at h1 h2 ⊢
    refine ⟨?_, max_vld x y h1.2 h2.2⟩
    have g1 := h1.1
    have g2 := h2.1
    simp only [okZ, Bool.and_eq_true, decide_eq_true_eq] at g1 g2 ⊢
    unfold mx
    split <;> omega
def meetOf (a b : List (List Int)) : List (List Int) := (makeL a).flatMap fun x => (makeL b).map fun y => maxL x y
theorem meetOf_mem {a b : List (List Int)} {z : List Int} (h : z ∈ meetOf a b) : ∃ x ∈ makeL a, ∃ y ∈ makeL b, z = maxL x y := by
  obtain ⟨x, hx, hz⟩ := List.mem_flatMap.1 h
  obtain ⟨y, hy, rfl⟩ := List.mem_map.1 hz
  exact ⟨x, hx, y, hy, rfl⟩
theorem use_meet {a b : List (List Int)} (hab : ∀ x ∈ makeL a, ∀ y ∈ makeL b, x.length = y.length) : useL (meetOf a b) = meetOf a b := by
  refine useL_id (fun z hz => ?_) (fun z hz z' hz' => ?_)
  · obtain ⟨x, hx, y, hy, rfl⟩ := meetOf_mem hz
    have h1 := makeL_mem hx
    have h2 := makeL_mem hy
    have hl := hab x hx y hy
    unfold maxL
    rw [if_pos hl]
    exact ⟨by simp; omega, by simp; omega, max_vld x y h1.2.2.2 h2.2.2.2⟩
  · obtain ⟨x, hx, y, hy, rfl⟩ := meetOf_mem hz
    obtain ⟨x', hx', y', hy', rfl⟩ := meetOf_mem hz'
    have h1 := hab x hx y hy
    have h2 := hab x' hx' y' hy'
    have h3 := make_same hx hx'
    unfold maxL
    rw [if_pos h1, if_pos h2]
    simp; omega
theorem has_meet {a b : List (List Int)} (hab : ∀ x ∈ makeL a, ∀ y ∈ makeL b, x.length = y.length) (m : List Int) : hasL (meetL a b) m = (hasL a m && hasL b m) := by
  rw [show meetL a b = makeL (meetOf a b) from rfl, hasL_make]
  apply Bool.eq_iff_iff.2
  rw [Bool.and_eq_true, hasL_iff, use_meet hab]
  constructor
  · rintro ⟨hv, z, hz, hle⟩
    obtain ⟨x, hx, y, hy, rfl⟩ := meetOf_mem hz
    unfold maxL at hle
    rw [if_pos (hab x hx y hy), zip_leq x y m (hab x hx y hy)] at hle
    exact ⟨hasL_up (hasL_mem hx) hle.1 hv, hasL_up (hasL_mem hy) hle.2 hv⟩
  · rintro ⟨h1, h2⟩
    unfold hasL at h1 h2
    rw [Bool.and_eq_true, List.any_eq_true] at h1 h2
    obtain ⟨hv, x, hx, hxm⟩ := h1
    obtain ⟨_, y, hy, hym⟩ := h2
    refine ⟨hv, maxL x y, List.mem_flatMap.2 ⟨x, hx, List.mem_map.2 ⟨y, hy, rfl⟩⟩, ?_⟩
    unfold maxL
    rw [if_pos (hab x hx y hy), zip_leq x y m (hab x hx y hy)]
    exact ⟨hxm, hym⟩
theorem meetOf_ok {a b : List (List Int)} (ha : a.length ≤ 12) (hb : b.length ≤ 12) : okIn (meetOf a b) := by
  have h1 := makeL_len a
  have h2 := makeL_len b
  refine ⟨?_, fun z hz => ?_⟩
  · unfold meetOf
    rw [List.length_flatMap]
    have : ((makeL a).map fun x => ((makeL b).map fun y => maxL x y).length) = List.replicate (makeL a).length (makeL b).length := by
      apply List.ext_getElem
      · simp
      · intro i h1 h2; simp
    rw [this]
    have := Nat.mul_le_mul (Nat.le_trans h1 ha) (Nat.le_trans h2 hb)
    simp; omega
  · obtain ⟨x, hx, y, hy, rfl⟩ := meetOf_mem hz
    have := maxL_len x y
    have := (makeL_mem hx).2.2.1
    omega
theorem app_ok {a b : List (List Int)} (ha : fewB a = true) (hb : fewB b = true) : okIn (a ++ b) := by
  have h1 := few_ok ha
  have h2 := few_ok hb
  refine ⟨by rw [List.length_append]; omega, fun m hm => ?_⟩
  rcases List.mem_append.1 hm with hm | hm
  · have := h1.2 m hm; omega
  · have := h2.2 m hm; omega
theorem union_f {a b : List (List Int)} (h : okIn (a ++ b)) : upset_Union.f a b = some (unionL a b) := by unfold upset_Union.f; rw [if_pos h]
theorem meet_f {a b : List (List Int)} (ha : fewB a = true) (hb : fewB b = true) : upset_Meet.f a b = some (meetL a b) := by
  unfold upset_Meet.f
  have h := Nat.mul_le_mul (few_ok ha).1 (few_ok hb).1
  rw [if_pos ⟨few_in ha, few_in hb, by omega⟩]

/-! ### UpsetPairs, walked by hand -/
set_option maxRecDepth 100000 in
set_option maxHeartbeats 8000000 in
theorem pairs_few (k : Nat) (A : Option Addr) (c : Nat) (a : List (List Int)) (A2 : Option Addr) (c2 : Nat) (b : List (List Int)) (w : World) (hr : kM.C w A a.length a) (hc : a.length ≤ c) (hr2 : kM.C w A2 b.length b) (hc2 : b.length ≤ c2)
    (h : petrinetref21_Few.f k a = some false ∨ (petrinetref21_Few.f k a = some true ∧ petrinetref21_Few.f k b = some false)) :
    Calls Try.prog 5 #[.slice A a.length c, .slice A2 b.length c2] w fun e w' => e = .returned (.bool true) ∧ Below w.heap.size w w' := by
  rcases h with h | ⟨h, h2⟩
  · have hf := Aside0.mk (petrinetref21_Few.calls k A c a false w hr hc h)
    clear hr hr2 h
    go_enter Try.func5, Try.ntmps5
    go_wp2_with fail
    refine hf.out.mono ?_
    rintro e w1 ⟨rfl, hd⟩
    have hb1 := Aside0.mk hd.below
    have hl := Aside0.mk (lives_in w1)
    clear hd hf
    go_wp2_with fail
    refine hl.out.mono ?_
    rintro e w2 ⟨rfl, hb2⟩
    have hb3 := Aside0.mk (hb1.out.trans (hb2.mono hb1.out.size))
    clear hb2 hl hb1
    go_wp2
    go_ret
    exact ⟨rfl, hb3.out⟩
  · have hf := Aside0.mk (petrinetref21_Few.calls k A c a true w hr hc h)
    replace hr2 := Aside0.mk hr2
    clear hr h
    go_enter Try.func5, Try.ntmps5
    go_wp2_with fail
    refine hf.out.mono ?_
    rintro e w1 ⟨rfl, hd⟩
    have hb1 := Aside0.mk hd.below
    have hf2 := Aside0.mk (petrinetref21_Few.calls k A2 c2 b false w1 (Kd.C_below hr2.out hd.below) hc2 h2)
    clear hd hf h2
    go_wp2_with fail
    refine hf2.out.mono ?_
    rintro e w2 ⟨rfl, hd⟩
    have hb2 := Aside0.mk (hb1.out.trans (hd.below.mono hb1.out.size))
    have hl := Aside0.mk (lives_in w2)
    clear hd hf2 hb1
    go_wp2_with fail
    refine hl.out.mono ?_
    rintro e w3 ⟨rfl, hb3⟩
    have hb4 := Aside0.mk (hb2.out.trans (hb3.mono hb2.out.size))
    clear hb3 hl hb2
    go_wp2
    go_ret
    exact ⟨rfl, hb4.out⟩
set_option maxRecDepth 100000 in
set_option maxHeartbeats 8000000 in
theorem pairs_main (k : Nat) (A : Option Addr) (c : Nat) (a : List (List Int)) (A2 : Option Addr) (c2 : Nat) (b : List (List Int)) (w : World) (hr : kM.C w A a.length a) (hc : a.length ≤ c) (hr2 : kM.C w A2 b.length b) (hc2 : b.length ≤ c2)
    (h1 : petrinetref21_Few.f k a = some true) (h2 : petrinetref21_Few.f k b = some true) (hoka : okIn a) (hokb : okIn b) (hok : okIn (a ++ b)) (hmul : a.length * b.length ≤ 1000000)
    (hru : petrinetref21_Union.f k a b = some (unionL a b)) (hrm : petrinetref21_Meet.f k a b = some (meetL a b)) (hlu : petrinetref04_Lists.f k (unionL a b) (unionL a b) = some true) (hlm : petrinetref04_Lists.f k (meetL a b) (meetL a b) = some true)
    (hrs : petrinetref21_Subset.f k a b = some (subL a b)) (hre : petrinetref21_Same.f k a b = some (subL a b && subL b a)) :
    Calls Try.prog 5 #[.slice A a.length c, .slice A2 b.length c2] w fun e w' => e = .returned (.bool true) ∧ Below w.heap.size w w' := by
  have hf := Aside0.mk (petrinetref21_Few.calls k A c a true w hr hc h1)
  obtain ⟨U, hU⟩ : ∃ U, unionL a b = U := ⟨_, rfl⟩
  obtain ⟨M, hM⟩ : ∃ M, meetL a b = M := ⟨_, rfl⟩
  obtain ⟨s, hs⟩ : ∃ s, subL a b = s := ⟨_, rfl⟩
  obtain ⟨e, he⟩ : ∃ e, (subL a b && subL b a) = e := ⟨_, rfl⟩
  rw [hU] at hru hlu
  rw [hM] at hrm hlm
  rw [he] at hre
  rw [hs] at hrs
  have cf2 : Aside0 (∀ W, Below w.heap.size w W → Calls Try.prog 10 #[.slice A2 b.length c2] W fun e w' => e = .returned (.bool true) ∧ Drawn0 W w') := ⟨fun W hb => petrinetref21_Few.calls k A2 c2 b true W (Kd.C_below hr2 hb) hc2 h2⟩
  have cu : Aside0 (∀ W, Below w.heap.size w W → Calls Try.prog 19 #[.slice A a.length c, .slice A2 b.length c2] W (UnPost W U)) := ⟨fun W hb => union_un W A c a A2 c2 b U (Kd.C_below hr hb) hc (Kd.C_below hr2 hb) hc2 hok hU⟩
  have cm : Aside0 (∀ W, Below w.heap.size w W → Calls Try.prog 21 #[.slice A a.length c, .slice A2 b.length c2] W (UnPost W M)) := ⟨fun W hb => meet_un W A c a A2 c2 b M (Kd.C_below hr hb) hc (Kd.C_below hr2 hb) hc2 ⟨hoka, hokb, hmul⟩ hM⟩
  have cru : Aside0 (∀ W, Below w.heap.size w W → Calls Try.prog 20 #[.slice A a.length c, .slice A2 b.length c2] W fun e w' => ∃ Ar cr, e = .returned (.slice Ar U.length cr) ∧ U.length ≤ cr ∧ kM.C w' Ar U.length U ∧ Below W.heap.size W w') := ⟨fun W hb => by
    refine (petrinetref21_Union.calls k (fun k_ => k_ < w.heap.size) A c a (fun k_ => k_ < w.heap.size) A2 c2 b U W (Kd.V_mk hc (Kd.F_below (Kd.C_F (Kd.heap_slice 3 (Kd.heap_int .i64)) hr) hb)) (Kd.V_mk hc2 (Kd.F_below (Kd.C_F (Kd.heap_slice 3 (Kd.heap_int .i64)) hr2) hb)) hru).mono ?_
    rintro e w' ⟨v, rfl, hN, hb'⟩
    obtain ⟨Ar, cr, rfl, h3, h4⟩ := Kd.N_reads hN
    exact ⟨Ar, cr, rfl, h3, h4, hb'⟩⟩
  have crm : Aside0 (∀ W, Below w.heap.size w W → Calls Try.prog 22 #[.slice A a.length c, .slice A2 b.length c2] W fun e w' => ∃ Ar cr, e = .returned (.slice Ar M.length cr) ∧ M.length ≤ cr ∧ kM.C w' Ar M.length M ∧ Below W.heap.size W w') := ⟨fun W hb => by
    refine (petrinetref21_Meet.calls k A c a A2 c2 b M W (Kd.C_below hr hb) hc (Kd.C_below hr2 hb) hc2 hrm).mono ?_
    rintro e w' ⟨v, rfl, hN, hb'⟩
    obtain ⟨Ar, cr, rfl, h3, h4⟩ := Kd.N_reads hN
    exact ⟨Ar, cr, rfl, h3, h4, hb'⟩⟩
  have cs : Aside0 (∀ W, Below w.heap.size w W → Calls Try.prog 23 #[.slice A a.length c, .slice A2 b.length c2] W fun e w' => e = .returned (.bool s) ∧ Below W.heap.size W w') := ⟨fun W hb => sub_un W A c a A2 c2 b s (Kd.C_below hr hb) hc (Kd.C_below hr2 hb) hc2 ⟨hoka, hokb⟩ hs⟩
  have crs : Aside0 (∀ W, Below w.heap.size w W → Calls Try.prog 24 #[.slice A a.length c, .slice A2 b.length c2] W fun e w' => e = .returned (.bool s) ∧ Below W.heap.size W w') := ⟨fun W hb => petrinetref21_Subset.calls k A c a A2 c2 b s W (Kd.C_below hr hb) hc (Kd.C_below hr2 hb) hc2 hrs⟩
  have ce : Aside0 (∀ W, Below w.heap.size w W → Calls Try.prog 25 #[.slice A a.length c, .slice A2 b.length c2] W fun e' w' => e' = .returned (.bool e) ∧ Below W.heap.size W w') := ⟨fun W hb => upset_Same.calls A c a A2 c2 b e W (Kd.C_below hr hb) hc (Kd.C_below hr2 hb) hc2 (by rw [same_f hoka hokb, he])⟩
  have cre : Aside0 (∀ W, Below w.heap.size w W → Calls Try.prog 26 #[.slice A a.length c, .slice A2 b.length c2] W fun e' w' => e' = .returned (.bool e) ∧ Below W.heap.size W w') := ⟨fun W hb => petrinetref21_Same.calls k A c a A2 c2 b e W (Kd.C_below hr hb) hc (Kd.C_below hr2 hb) hc2 hre⟩
  have cl : Aside0 (∀ (l : List (List Int)) (W : World) (Ax : Option Addr) (cx : Nat) (Ay : Option Addr) (cy : Nat), petrinetref04_Lists.f k l l = some true → kM.C W Ax l.length l → l.length ≤ cx → kM.C W Ay l.length l → l.length ≤ cy → Calls Try.prog 12 #[.slice Ax l.length cx, .slice Ay l.length cy] W fun e w' => e = .returned (.bool true) ∧ Drawn0 W w') := ⟨fun l W Ax cx Ay cy h g1 g2 g3 g4 => petrinetref04_Lists.calls k Ax cx l Ay cy l true W g1 g2 g3 g4 h⟩
  replace hlu := Aside0.mk hlu
  replace hlm := Aside0.mk hlm
  have b1 : (s == s) = true := by simp
  have b2 : (e == e) = true := by simp
  clear hr hr2 h1 h2 hoka hokb hok hmul hru hrm hrs hre hU hM hs he
  go_enter Try.func5, Try.ntmps5
  go_wp2_with fail
  refine hf.out.mono ?_
  rintro e' w1 ⟨rfl, hd⟩
  have hb := Aside0.mk hd.below
  have hq := Aside0.mk (cf2.out w1 hb.out)
  clear hd hf cf2
  go_wp2_with fail
  refine hq.out.mono ?_
  rintro e' w2 ⟨rfl, hd⟩
  have hb2 := Aside0.mk (hb.out.trans (hd.below.mono hb.out.size))
  have hq2 := Aside0.mk (cu.out w2 hb2.out)
  clear hd hq hb cu
  go_wp2_with fail
  refine hq2.out.mono ?_
  rintro e' w3 ⟨v, rfl, hS, hb'⟩
  obtain ⟨Au, cu', rfl, hcu, hCu⟩ := Kd.S_reads hS
  have hb3 := Aside0.mk (hb2.out.trans (hb'.mono hb2.out.size))
  have hq3 := Aside0.mk (cru.out w3 hb3.out)
  replace hCu := Aside0.mk hCu
  clear hS hb' hq2 hb2 cru
  go_wp2_with fail
  refine hq3.out.mono ?_
  rintro e' w4 ⟨Ar, cr, rfl, hcr, hCr, hb'⟩
  have hb4 := Aside0.mk (hb3.out.trans (hb'.mono hb3.out.size))
  have hq4 := Aside0.mk (cl.out U w4 Au cu' Ar cr hlu.out (Kd.C_below hCu.out hb') hcu hCr hcr)
  clear hb' hq3 hb3 hCr hCu
  go_wp2_with fail
  refine hq4.out.mono ?_
  rintro e' w5 ⟨rfl, hd⟩
  have hb5 := Aside0.mk (hb4.out.trans (hd.below.mono hb4.out.size))
  have hq5 := Aside0.mk (cm.out w5 hb5.out)
  clear hd hq4 hb4 cm
  go_wp2_with fail
  refine hq5.out.mono ?_
  rintro e' w6 ⟨v, rfl, hS, hb'⟩
  obtain ⟨Am, cm', rfl, hcm, hCm⟩ := Kd.S_reads hS
  have hb6 := Aside0.mk (hb5.out.trans (hb'.mono hb5.out.size))
  have hq6 := Aside0.mk (crm.out w6 hb6.out)
  replace hCm := Aside0.mk hCm
  clear hS hb' hq5 hb5 crm
  go_wp2_with fail
  refine hq6.out.mono ?_
  rintro e' w7 ⟨Ar2, cr2, rfl, hcr2, hCr2, hb'⟩
  have hb7 := Aside0.mk (hb6.out.trans (hb'.mono hb6.out.size))
  have hq7 := Aside0.mk (cl.out M w7 Am cm' Ar2 cr2 hlm.out (Kd.C_below hCm.out hb') hcm hCr2 hcr2)
  clear hb' hq6 hb6 hCr2 hCm
  go_wp2_with fail
  refine hq7.out.mono ?_
  rintro e' w8 ⟨rfl, hd⟩
  have hb8 := Aside0.mk (hb7.out.trans (hd.below.mono hb7.out.size))
  have hq8 := Aside0.mk (cs.out w8 hb8.out)
  clear hd hq7 hb7 cs
  go_wp2_with fail
  refine hq8.out.mono ?_
  rintro e' w9 ⟨rfl, hb'⟩
  have hb9 := Aside0.mk (hb8.out.trans (hb'.mono hb8.out.size))
  have hq9 := Aside0.mk (crs.out w9 hb9.out)
  clear hb' hq8 hb8 crs
  go_wp2_with fail
  refine hq9.out.mono ?_
  rintro e' w10 ⟨rfl, hb'⟩
  have hb10 := Aside0.mk (hb9.out.trans (hb'.mono hb9.out.size))
  have hq10 := Aside0.mk (ce.out w10 hb10.out)
  clear hb' hq9 hb9 ce
  go_wp2_with fail
  refine hq10.out.mono ?_
  rintro e' w11 ⟨rfl, hb'⟩
  have hb11 := Aside0.mk (hb10.out.trans (hb'.mono hb10.out.size))
  have hq11 := Aside0.mk (cre.out w11 hb11.out)
  clear hb' hq10 hb10 cre
  go_wp2_with fail
  refine hq11.out.mono ?_
  rintro e' w12 ⟨rfl, hb'⟩
  have hb12 := Aside0.mk (hb11.out.trans (hb'.mono hb11.out.size))
  have hq12 := Aside0.mk (lives_in w12)
  clear hb' hq11 hb11
  go_wp2_with fail
  refine hq12.out.mono ?_
  rintro e' w13 ⟨rfl, hb'⟩
  have hb13 := Aside0.mk (hb12.out.trans (hb'.mono hb12.out.size))
  clear hb' hq12 hb12
  go_wp2
  go_ret
  exact ⟨rfl, hb13.out⟩
/-- what the walk asks -/
def PairsAt (k : Nat) (a b : List (List Int)) : Prop :=
  (petrinetref21_Few.f k a = some false ∨ (petrinetref21_Few.f k a = some true ∧ petrinetref21_Few.f k b = some false)) ∨
  (petrinetref21_Few.f k a = some true ∧ petrinetref21_Few.f k b = some true ∧ okIn a ∧ okIn b ∧ okIn (a ++ b) ∧ a.length * b.length ≤ 1000000 ∧
    petrinetref21_Union.f k a b = some (unionL a b) ∧ petrinetref21_Meet.f k a b = some (meetL a b) ∧ petrinetref04_Lists.f k (unionL a b) (unionL a b) = some true ∧ petrinetref04_Lists.f k (meetL a b) (meetL a b) = some true ∧
    petrinetref21_Subset.f k a b = some (subL a b) ∧ petrinetref21_Same.f k a b = some (subL a b && subL b a))
theorem petrinetlaw21_UpsetPairs.calls (k : Nat) (A : Option Addr) (c : Nat) (a : List (List Int)) (A2 : Option Addr) (c2 : Nat) (b : List (List Int)) (r : Bool) (w : World) (hr : Kd.C (Kd.slice 3 (Kd.int .i64)) w A a.length a) (hc : a.length ≤ c) (hr2 : Kd.C (Kd.slice 3 (Kd.int .i64)) w A2 b.length b) (hc2 : b.length ≤ c2) (h : r = true ∧ PairsAt k a b) :
    Calls Try.prog 5 #[.slice A a.length c, .slice A2 b.length c2] w fun e w' => e = .returned (.bool r) ∧ Below w.heap.size w w' := by
  obtain ⟨rfl, h | ⟨h1, h2, h3, h4, h5, h6, h7, h8, h9, h10, h11, h12⟩⟩ := h
  · exact pairs_few k A c a A2 c2 b w hr hc hr2 hc2 h
  · exact pairs_main k A c a A2 c2 b w hr hc hr2 hc2 h1 h2 h3 h4 h5 h6 h7 h8 h9 h10 h11 h12

/-! ### UpsetPairs: the plain law -/
theorem refunion_ev (a b : List (List Int)) (ha : fewB a = true) (hb : fewB b = true) : Ev (fun k => petrinetref21_Union.f k a b) (unionL a b) := by
  have h1 := few_ok ha
  have h2 := few_ok hb
  have hl : a.length + b.length ≤ 24 := by omega
  simp only [petrinetref21_Union.f, List.nil_append, Option.bind_some, List.length_nil, Nat.zero_add, if_pos (show a.length < 5864062014805 by omega), if_pos (show a.length + b.length < 5864062014805 by omega)]
  refine Ev.bind (refmake_ev (a ++ b) (app_ok ha hb) (by rw [List.length_append]; omega)) ?_
  exact Ev.of fun _ => rfl
theorem max04_loop (a b : List Int) (hab : a.length = b.length) (hl : a.length ≤ 1000000) : ∀ (m i : Nat), i + m = a.length → Ev (fun k => petrinetref04_Max.l0 k a b ((List.zipWith mx a b).take i) i) (List.zipWith mx a b) := by
  intro m
  induction m with
  | zero =>
    intro i hi
    refine Ev.up ?_
    simp only [petrinetref04_Max.l0, if_neg (show ¬ (i : Int) < (a.length : Int) by omega)]
    rw [List.take_of_length_le (by simp; omega)]
    exact Ev.of fun _ => rfl
  | succ m ih =>
    intro i hi
    refine Ev.up ?_
    have h2 : i < (List.zipWith mx a b).length := by simp; omega
    have ht : (List.zipWith mx a b).take i ++ [mx (rd a (i : Int)) (rd b (i : Int))] = (List.zipWith mx a b).take (i + 1) := by
      rw [List.take_succ_eq_append_getElem h2, List.getElem_zipWith, rdI_nat, rdI_nat, List.getD_eq_getElem?_getD, List.getD_eq_getElem?_getD, List.getElem?_eq_getElem (show i < a.length by omega), List.getElem?_eq_getElem (show i < b.length by omega)]; rfl
    simp only [petrinetref04_Max.l0, if_pos (show (i : Int) < (a.length : Int) by omega), if_pos (show (0 : Int) ≤ (i : Int) by omega), if_pos (show (i : Int) < (b.length : Int) by omega), if_pos (show ((List.zipWith mx a b).take i).length < 17592186044416 by rw [List.length_take]; omega), w_succ (show i < 9223372036854775807 by omega), ht]
    exact ih (i + 1) (by omega)
theorem max04_ev (a b : List Int) (hl : a.length ≤ 1000000) : Ev (fun k => petrinetref04_Max.f k a b) (maxL a b) := by
  unfold maxL
  by_cases h : a.length = b.length
  · simp only [petrinetref04_Max.f, if_pos (show (a.length : Int) = (b.length : Int) by omega), if_pos h]
    exact max04_loop a b h hl a.length 0 (by omega)
  · simp only [petrinetref04_Max.f, if_neg (show ¬ (a.length : Int) = (b.length : Int) by omega), if_neg h]
    exact Ev.of fun _ => rfl
theorem refmeet_l1 (X Y : List (List Int)) (hX : okIn X) (hY : okIn Y) (hmul : X.length * Y.length ≤ 1000000) (i : Nat) (hi : i < X.length) (R : List (List Int)) (pre : List (List Int)) (hp : pre.length ≤ i * Y.length)
    (hR : Ev (fun k => petrinetref21_Meet.l0 k X Y (pre ++ Y.map fun y => maxL (rd_L1 X (i : Int)) y) ((i + 1 : Nat) : Int)) R) : ∀ (d j : Nat), j + d = Y.length → Ev (fun k => petrinetref21_Meet.l1 k X Y (pre ++ (Y.take j).map fun y => maxL (rd_L1 X (i : Int)) y) i j) R := by
  intro d
  have h0 : (i + 1) * Y.length ≤ 1000000 := Nat.le_trans (Nat.mul_le_mul_right _ hi) hmul
  rw [Nat.add_mul, Nat.one_mul] at h0
  have hXl := hX.1
  have hYl := hY.1
  induction d with
  | zero =>
    intro j hj
    refine Ev.up ?_
    simp only [petrinetref21_Meet.l1, if_neg (show ¬ (j : Int) < (Y.length : Int) by omega), w_succ (show i < 9223372036854775807 by omega)]
    rw [List.take_of_length_le (by omega)]
    exact hR
  | succ d ih =>
    intro j hj
    have hlt : j < Y.length := by omega
    have ht : Y.take (j + 1) = Y.take j ++ [rd_L1 Y (j : Int)] := by
      rw [List.take_succ_eq_append_getElem hlt, rdL_nat, List.getD_eq_getElem?_getD, List.getElem?_eq_getElem hlt]; rfl
    refine Ev.up ?_
    simp only [petrinetref21_Meet.l1, if_pos (show (j : Int) < (Y.length : Int) by omega), if_pos (show (0 : Int) ≤ (i : Int) by omega), if_pos (show (i : Int) < (X.length : Int) by omega), if_pos (show (0 : Int) ≤ (j : Int) by omega), w_succ (show j < 9223372036854775807 by omega)]
    refine Ev.bind (max04_ev _ _ (hX.2 _ (rdL_mem hi))) ?_
    have hlen : (pre ++ (Y.take j).map fun y => maxL (rd_L1 X (i : Int)) y).length < 5864062014805 := by
      rw [List.length_append, List.length_map, List.length_take]; omega
    simp only [if_pos hlen]
    have := ih (j + 1) (by omega)
    rw [ht, List.map_append, ← List.append_assoc] at this
    exact this
theorem refmeet_l0 (X Y : List (List Int)) (hX : okIn X) (hY : okIn Y) (hmul : X.length * Y.length ≤ 100000) (hok : okIn (X.flatMap fun x => Y.map fun y => maxL x y)) (hl : (X.flatMap fun x => Y.map fun y => maxL x y).length ≤ 100000) : ∀ (d i : Nat), i + d = X.length →
    Ev (fun k => petrinetref21_Meet.l0 k X Y ((X.take i).flatMap fun x => Y.map fun y => maxL x y) i) (makeL (X.flatMap fun x => Y.map fun y => maxL x y)) := by
  intro d
  induction d with
  | zero =>
    intro i hi
    refine Ev.up ?_
    simp only [petrinetref21_Meet.l0, if_neg (show ¬ (i : Int) < (X.length : Int) by omega)]
    rw [List.take_of_length_le (by omega)]
    refine Ev.bind (refmake_ev _ hok hl) ?_
    exact Ev.of fun _ => rfl
  | succ d ih =>
    intro i hi
    have hlt : i < X.length := by omega
    have ht : X.take (i + 1) = X.take i ++ [rd_L1 X (i : Int)] := by
      rw [List.take_succ_eq_append_getElem hlt, rdL_nat, List.getD_eq_getElem?_getD, List.getElem?_eq_getElem hlt]; rfl
    refine Ev.up ?_
    simp only [petrinetref21_Meet.l0, if_pos (show (i : Int) < (X.length : Int) by omega)]
    have hIH := ih (i + 1) (by omega)
    rw [ht, List.flatMap_append] at hIH
    have hp : ((X.take i).flatMap fun x => Y.map fun y => maxL x y).length ≤ i * Y.length := by
      rw [List.length_flatMap]
      have : ((X.take i).map fun x => (Y.map fun y => maxL x y).length) = List.replicate i Y.length := by
        apply List.ext_getElem
        · simp; omega
        · intro q h1 h2; simp
      rw [this]; simp
    have := refmeet_l1 X Y hX hY (by omega) i hlt _ _ hp (by simpa using hIH) Y.length 0 (by omega)
    simpa using this
theorem refmeet_ev (a b : List (List Int)) (ha : fewB a = true) (hb : fewB b = true) : Ev (fun k => petrinetref21_Meet.f k a b) (meetL a b) := by
  have h1 := few_ok ha
  have h2 := few_ok hb
  have l1 := makeL_len a
  have l2 := makeL_len b
  have hmul : (makeL a).length * (makeL b).length ≤ 144 := Nat.mul_le_mul (show (makeL a).length ≤ 12 by omega) (show (makeL b).length ≤ 12 by omega)
  have hok := meetOf_ok h1.1 h2.1
  have hlen : (meetOf a b).length ≤ 100000 := by
    unfold meetOf
    rw [List.length_flatMap]
    have : ((makeL a).map fun x => ((makeL b).map fun y => maxL x y).length) = List.replicate (makeL a).length (makeL b).length := by
      apply List.ext_getElem
      · simp
      · intro i h1 h2; simp
    rw [this]
    simp; omega
  simp only [petrinetref21_Meet.f]
  refine Ev.bind (refmake_ev a (few_in ha) (by omega)) ?_
  refine Ev.bind (refmake_ev b (few_in hb) (by omega)) ?_
  exact refmeet_l0 (makeL a) (makeL b) (makeL_ok (few_in ha)) (makeL_ok (few_in hb)) (by omega) hok hlen (makeL a).length 0 (by omega)
theorem refsub_loop (b u : List (List Int)) (hb : fewB b = true) (hu : okIn u) : ∀ (d i : Nat), i + d = u.length → Ev (fun k => petrinetref21_Subset.l0 k b u i) (!(u.drop i).any fun m => !hasL b m) := by
  intro d
  have h2 := few_ok hb
  induction d with
  | zero =>
    intro i hi
    refine Ev.up ?_
    simp only [petrinetref21_Subset.l0, if_neg (show ¬ (i : Int) < (u.length : Int) by omega)]
    rw [List.drop_of_length_le (by omega)]
    exact Ev.of fun _ => rfl
  | succ d ih =>
    intro i hi
    have hlt : i < u.length := by omega
    refine Ev.up ?_
    simp only [petrinetref21_Subset.l0, if_pos (show (i : Int) < (u.length : Int) by omega), if_pos (show (0 : Int) ≤ (i : Int) by omega), w_succ (show i < 9223372036854775807 by have := hu.1; omega)]
    refine Ev.bind (refhas_ev b _ (few_in hb) (by omega) (hu.2 _ (rdL_mem hlt))) ?_
    have hIH := ih (i + 1) (by omega)
    rw [dropL hlt, List.any_cons]
    cases h : hasL b (rd_L1 u (i : Int)) with
    | true => simpa using hIH
    | false => simp only [if_neg (show ¬ (false = true) by decide)]; exact Ev.of fun _ => by simp
theorem refsub_ev (a b : List (List Int)) (ha : fewB a = true) (hb : fewB b = true) : Ev (fun k => petrinetref21_Subset.f k a b) (subL a b) := by
  have h1 := few_ok ha
  simp only [petrinetref21_Subset.f]
  refine Ev.bind (refmake_ev a (few_in ha) (by omega)) ?_
  have e : subL a b = !(makeL a).any fun m => !hasL b m := by
    unfold subL
    simp only [hasL_make]
  rw [e]
  have := refsub_loop b (makeL a) hb (makeL_ok (few_in ha)) (makeL a).length 0 (by omega)
  simpa using this
theorem refsame_ev (a b : List (List Int)) (ha : fewB a = true) (hb : fewB b = true) : Ev (fun k => petrinetref21_Same.f k a b) (subL a b && subL b a) := by
  simp only [petrinetref21_Same.f]
  refine Ev.bind (refsub_ev a b ha hb) ?_
  cases h : subL a b with
  | false => simp only [if_neg (show ¬ (false = true) by decide)]; exact Ev.of fun _ => rfl
  | true =>
    simp only [if_true, Bool.true_and]
    exact Ev.bind (refsub_ev b a hb ha) (Ev.of fun _ => rfl)
theorem pairs_ex (a b : List (List Int)) : ∃ k, true = true ∧ PairsAt k a b := by
  obtain ⟨K1, e1⟩ := few_ev a
  obtain ⟨K2, e2⟩ := few_ev b
  cases hfa : fewB a with
  | false => exact ⟨K1, rfl, .inl (.inl (by have := e1 K1 (Nat.le_refl _); rwa [hfa] at this))⟩
  | true =>
    rw [hfa] at e1
    cases hfb : fewB b with
    | false =>
      rw [hfb] at e2
      exact ⟨K1 + K2, rfl, .inl (.inr ⟨e1 _ (by omega), e2 _ (by omega)⟩)⟩
    | true =>
      rw [hfb] at e2
      have hok := app_ok hfa hfb
      have hu : okIn (unionL a b) := makeL_ok hok
      have hm : okIn (meetL a b) := makeL_ok (meetOf_ok (few_ok hfa).1 (few_ok hfb).1)
      obtain ⟨K3, e3⟩ := refunion_ev a b hfa hfb
      obtain ⟨K4, e4⟩ := refmeet_ev a b hfa hfb
      obtain ⟨K5, e5⟩ := lists_ev (unionL a b) (unionL a b) hu
      obtain ⟨K6, e6⟩ := lists_ev (meetL a b) (meetL a b) hm
      obtain ⟨K7, e7⟩ := refsub_ev a b hfa hfb
      obtain ⟨K8, e8⟩ := refsame_ev a b hfa hfb
      rw [decide_eq_true rfl] at e5 e6
      have hmul := Nat.mul_le_mul (few_ok hfa).1 (few_ok hfb).1
      refine ⟨K1 + K2 + K3 + K4 + K5 + K6 + K7 + K8, rfl, .inr ⟨e1 _ (by omega), e2 _ (by omega), few_in hfa, few_in hfb, hok, by omega, e3 _ (by omega), e4 _ (by omega), e5 _ (by omega), e6 _ (by omega), e7 _ (by omega), e8 _ (by omega)⟩⟩

end Go.Proofs.Ytliagbliaiigaaa.Hy
