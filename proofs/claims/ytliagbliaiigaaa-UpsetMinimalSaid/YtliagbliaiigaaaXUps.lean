/- By hand (up_ups, up_valid, up_union, up_upsend): a part of this seat's proofs. -/
import Derived.Test.YtliagbliaiigaaaXMake
import Derived.Test.YtliagbliaiigaaaH3
namespace Go.Proofs.Ytliagbliaiigaaa.Hy
open Go.RowKit Go.Shelf Go.Proofs.YtliagbliaiigaaaW.PrintWords Go.Proofs.YtliagbliaiigaaaW.PrintLast Go.Proofs.YtliagbliaiigaaaW.PrintMore
set_option linter.unusedVariables false
set_option linter.unusedSimpArgs false
attribute [local go_sem] Oper.semAt_some
/-! ### upset.Has -/
def hasL (u : List (List Int)) (m : List Int) : Bool := vldL m && (makeL u).any fun x => leqL x m
theorem any_range (l : List (List Int)) (q : List Int → Bool) : (List.range l.length).any (fun i => q (l.getD i [])) = l.any q := by
  conv => rhs; rw [← map_getD l, List.any_map]
  rfl
theorem has1_calls (W : World) (A : Option Addr) (c : Nat) (x : List Int) (bm : Nat) (Am : Option Addr) (cm : Nat) (m : List Int) (hx : (Kd.int .i64).C W A x.length x) (hc : x.length ≤ c) (hm : (Kd.int .i64).C W Am m.length m) (hcm : m.length ≤ cm) (hl : x.length ≤ 1000000) (hb : W.cell? ⟨bm, 0, none⟩ = some (.slice Am m.length cm)) :
    Calls Try.prog 47 #[.slice A x.length c, .pointer (some ⟨bm, 0, none⟩)] W fun e w' => e = .returned (.bool (leqL x m)) ∧ Below W.heap.size W w' := by
  have hcall := Aside0.mk (below_calls W A c x Am cm m hx hc hm hcm hl)
  clear hx hm
  go_enter Try.func47, Try.ntmps47
  go_wp2_with (go_at_call 34; refine hcall.out.mono ?_; rintro e w' ⟨rfl, q, hq⟩; replace hq := Aside0.mk hq)
  go_ret
  exact ⟨rfl, by rw [hq.out]; exact pw_below_drewN (Below.refl _ _) _⟩
set_option maxRecDepth 100000 in
set_option maxHeartbeats 4000000 in
theorem has_calls (w : World) (A : Option Addr) (c : Nat) (u : List (List Int)) (Am : Option Addr) (cm : Nat) (m : List Int) (hr : kM.C w A u.length u) (hc : u.length ≤ c) (hm : (Kd.int .i64).C w Am m.length m) (hcm : m.length ≤ cm) (hok : okIn u) (hml : m.length ≤ 1000000) :
    Calls Try.prog 17 #[.slice A u.length c, .slice Am m.length cm] w fun e w' => e = .returned (.bool (hasL u m)) ∧ Below w.heap.size w w' := by
  obtain ⟨w1, hw1⟩ : ∃ w1, w1 = w.alloc (.cells #[.slice Am m.length cm] 28) := ⟨_, rfl⟩
  have hb1 : Below w.heap.size w w1 := by rw [hw1]; exact below_alloc (Below.refl _ _) _
  have hx1 : w1.heap[w.heap.size]? = some (.cells #[.slice Am m.length cm] 28 (0, 0)) := by rw [hw1]; exact blk_new w _
  have hgood := Aside0.mk (upset_good.calls _ Am cm m _ w1 (Kd.C_below hm hb1) hcm (good_at m hml))
  have hcell := cell_of_one hx1
  replace hx1 := Aside0.mk hx1
  obtain ⟨b, hb⟩ : ∃ b, vldL m = b := ⟨_, rfl⟩
  rw [hb] at hgood
  unfold hasL
  rw [hb]
  replace hb1 := Aside0.mk hb1
  clear hb
  subst hw1
  go_enter Try.func17, Try.ntmps17
  cases b with
  | false =>
    go_wp2_with (go_at_call 46; refine hgood.out.mono ?_; rintro e w2 ⟨rfl, hd⟩; have hb2 := Aside0.mk (hb1.out.trans (hd.below.mono hb1.out.size)); clear hd)
    go_ret
    exact ⟨by simp, hb2.out⟩
  | true =>
    go_wp2_with fail
    refine hgood.out.mono ?_
    rintro e w2 ⟨rfl, hd⟩
    have hb2 := hb1.out.trans (hd.below.mono hb1.out.size)
    have hx2 := blk_below hx1.out hd.below
    have hmk := Aside0.mk (make_calls w2 A c u (Kd.C_below hr hb2) hc hok.1 hok.2)
    replace hb2 := Aside0.mk hb2
    replace hx2 := Aside0.mk hx2
    clear hd hgood
    go_wp2_with fail
    refine hmk.out.mono ?_
    rintro e w3 ⟨v, rfl, hS, hb3⟩
    obtain ⟨Av, cv, rfl, hcv, hCv⟩ := Kd.S_reads hS
    have hb03 := hb2.out.trans (hb3.mono hb2.out.size)
    have hx3 := blk_below hx2.out hb3
    have hcf := containsFunc_in w3 Av cv (valsOf w3 Av (makeL u).length) 47 #[] #[.pointer (some ⟨w.heap.size, 0, none⟩)] (fun i => (fun x => leqL x m) ((makeL u).getD i [])) (valsOf_vals hCv)
      (fun i W hi hb => by
        rw [valsOf_len] at hi
        obtain ⟨Ai, ci, e, hle, hk⟩ := valsOf_at hCv i hi
        have hmem : (makeL u).getD i [] ∈ makeL u := by rw [List.getD_eq_getElem?_getD, List.getElem?_eq_getElem hi]; exact List.getElem_mem hi
        have h24 := (makeL_mem hmem).2.2.1
        rw [show (Value.slice none 0 0) = nilV from rfl, e]
        exact has1_calls W Ai ci _ w.heap.size Am cm m (Kd.C_below hk hb) hle (Kd.C_below hm (hb03.trans (hb.mono hb03.size))) hcm (by omega) (cell_of_one (blk_below hx3 hb)))
      (by rw [valsOf_len]; exact Nat.le_trans (makeL_len u) hok.1) (enters_of Try.func47 (by kernel_rfl) rfl)
    rw [valsOf_len, any_range (makeL u) (fun x => leqL x m)] at hcf
    replace hcf := Aside0.mk hcf
    replace hb03 := Aside0.mk hb03
    clear hS hCv hb3 hx3 hmk
    go_wp2_with (go_at_call 45; refine hcf.out.mono ?_; rintro e w4 ⟨rfl, hb4⟩; have hb04 := Aside0.mk (hb03.out.trans (hb4.mono hb03.out.size)); clear hb4)
    go_ret
    exact ⟨by simp, hb04.out⟩
/-! ### upset.Subset -/
def subL (a b : List (List Int)) : Bool := !(makeL a).any fun m => !hasL (makeL b) m
set_option maxRecDepth 100000 in
set_option maxHeartbeats 4000000 in
theorem sub1_calls (W : World) (Am : Option Addr) (cm : Nat) (m : List Int) (bm : Nat) (A : Option Addr) (c : Nat) (u : List (List Int)) (hm : (Kd.int .i64).C W Am m.length m) (hcm : m.length ≤ cm) (hr : kM.C W A u.length u) (hc : u.length ≤ c) (hok : okIn u) (hml : m.length ≤ 1000000) (hb : W.cell? ⟨bm, 0, none⟩ = some (.slice A u.length c)) :
    Calls Try.prog 51 #[.slice Am m.length cm, .pointer (some ⟨bm, 0, none⟩)] W fun e w' => e = .returned (.bool (!hasL u m)) ∧ Below W.heap.size W w' := by
  have hcall := Aside0.mk (has_calls W A c u Am cm m hr hc hm hcm hok hml)
  obtain ⟨b, hb'⟩ : ∃ b, hasL u m = b := ⟨_, rfl⟩
  rw [hb'] at hcall ⊢
  clear hb' hm hr hok
  go_enter Try.func51, Try.ntmps51
  go_wp2_with (go_at_call 17; refine hcall.out.mono ?_; rintro e w' ⟨rfl, hq⟩; replace hq := Aside0.mk hq)
  go_ret
  exact ⟨rfl, hq.out⟩
set_option maxRecDepth 100000 in
set_option maxHeartbeats 4000000 in
theorem subset_calls (w : World) (A : Option Addr) (c : Nat) (a : List (List Int)) (A2 : Option Addr) (c2 : Nat) (b : List (List Int)) (hr : kM.C w A a.length a) (hc : a.length ≤ c) (hr2 : kM.C w A2 b.length b) (hc2 : b.length ≤ c2) (hok : okIn a) (hok2 : okIn b) :
    Calls Try.prog 23 #[.slice A a.length c, .slice A2 b.length c2] w fun e w' => e = .returned (.bool (subL a b)) ∧ Below w.heap.size w w' := by
  have hmkb := Aside0.mk (make_calls w A2 c2 b hr2 hc2 hok2.1 hok2.2)
  clear hr2
  go_enter Try.func23, Try.ntmps23
  go_wp2_with fail
  refine hmkb.out.mono ?_
  rintro e w1 ⟨v, rfl, hS, hb1⟩
  obtain ⟨Av, cv, rfl, hcv, hCv⟩ := Kd.S_reads hS
  replace hCv := Aside0.mk hCv
  replace hb1 := Aside0.mk hb1
  clear hS hmkb
  go_wp2_with fail
  obtain ⟨w2, hw2⟩ : ∃ w2, w1.alloc (.cells #[.slice Av (makeL b).length cv] 22) = w2 := ⟨_, rfl⟩
  rw [hw2]
  have hb12 : Below w1.heap.size w1 w2 := by rw [← hw2]; exact below_alloc (Below.refl _ _) _
  have hx2 : w2.heap[w1.heap.size]? = some (.cells #[.slice Av (makeL b).length cv] 22 (0, 0)) := by rw [← hw2]; exact blk_new w1 _
  have hb2 := hb1.out.trans (hb12.mono hb1.out.size)
  have hCv2 := Kd.C_below hCv.out hb12
  refine (make_calls w2 A c a (Kd.C_below hr hb2) hc hok.1 hok.2).mono ?_
  rintro e w3 ⟨v3, rfl, hS3, hb3⟩
  obtain ⟨Ax, cx, rfl, hcx, hCx⟩ := Kd.S_reads hS3
  have hb03 := hb2.trans (hb3.mono hb2.size)
  have hx3 := blk_below hx2 hb3
  have hCv3 := Kd.C_below hCv2 hb3
  have hcf := containsFunc_in w3 Ax cx (valsOf w3 Ax (makeL a).length) 51 #[] #[.pointer (some ⟨w1.heap.size, 0, none⟩)] (fun i => (fun m => !hasL (makeL b) m) ((makeL a).getD i [])) (valsOf_vals hCx)
    (fun i W hi hb => by
      rw [valsOf_len] at hi
      obtain ⟨Ai, ci, e, hle, hk⟩ := valsOf_at hCx i hi
      have hmem : (makeL a).getD i [] ∈ makeL a := by rw [List.getD_eq_getElem?_getD, List.getElem?_eq_getElem hi]; exact List.getElem_mem hi
      have h24 := (makeL_mem hmem).2.2.1
      rw [show (Value.slice none 0 0) = nilV from rfl, e]
      exact sub1_calls W Ai ci _ w1.heap.size Av cv (makeL b) (Kd.C_below hk hb) hle (Kd.C_below hCv3 hb) hcv (makeL_ok hok2) (by omega) (cell_of_one (blk_below hx3 hb)))
    (by rw [valsOf_len]; exact Nat.le_trans (makeL_len a) hok.1) (enters_of Try.func51 (by kernel_rfl) rfl)
  rw [valsOf_len, any_range (makeL a) (fun m => !hasL (makeL b) m)] at hcf
  obtain ⟨bb, hbb⟩ : ∃ bb, ((makeL a).any fun m => !hasL (makeL b) m) = bb := ⟨_, rfl⟩
  rw [hbb] at hcf
  have hres : Aside0 (subL a b = !bb) := ⟨by rw [subL, hbb]⟩
  replace hcf := Aside0.mk hcf
  replace hb03 := Aside0.mk hb03
  clear hS3 hCx hb3 hx3 hw2 hb12 hx2 hb2 hCv2 hCv3 hbb hb1 hCv
  go_wp2_with (go_at_call 45; refine hcf.out.mono ?_; rintro e w4 ⟨rfl, hb4⟩; have hb04 := Aside0.mk (hb03.out.trans (hb4.mono hb03.out.size)); clear hb4)
  go_ret
  exact ⟨by rw [hres.out]; rfl, hb04.out⟩
/-! ### upset.Valid -/
def sameL (a b : List (List Int)) : Bool := decide (a = b)
def validL (u : List (List Int)) (n : Int) : Bool := decide (u = makeL u) && !(u.any fun m => (m.length : Int) != n)

/-! ### slices.Equal, slices.EqualFunc, upset.Valid -/
theorem eq_loop (a b : List Int) (hab : a.length = b.length) (hl : a.length ≤ 1000000) : ∀ (m i k : Nat), i + m = a.length → m < k → slices_Equal_int_int.l0 k a b (a.length : Int) i = some (decide (a.drop i = b.drop i)) := by
  intro m
  induction m with
  | zero =>
    intro i k hi hk
    obtain ⟨k, rfl⟩ : ∃ j, k = j + 1 := ⟨k - 1, by omega⟩
    simp only [slices_Equal_int_int.l0, if_neg (show ¬ (i : Int) < (a.length : Int) by omega)]
    rw [List.drop_of_length_le (by omega), List.drop_of_length_le (by omega)]; rfl
  | succ m ih =>
    intro i k hi hk
    obtain ⟨k, rfl⟩ : ∃ j, k = j + 1 := ⟨k - 1, by omega⟩
    simp only [slices_Equal_int_int.l0, if_pos (show (i : Int) < (a.length : Int) by omega), if_pos (show (0 : Int) ≤ (i : Int) by omega), if_pos (show (i : Int) < (b.length : Int) by omega), wI (show i < 9223372036854775807 by omega)]
    rw [dropI (show i < a.length by omega), dropI (show i < b.length by omega), ih (i + 1) k (by omega) (by omega)]
    by_cases h : rd a i = rd b i
    · rw [if_pos h, h]; simp
    · rw [if_neg h]; simp [h]
theorem eq_at (a b : List Int) (hl : a.length ≤ 1000000) : slices_Equal_int_int.f (a.length + 1) a b = some (decide (a = b)) := by
  unfold slices_Equal_int_int.f
  by_cases h : (a.length : Int) = (b.length : Int)
  · rw [if_pos h]; exact eq_loop a b (by omega) hl a.length 0 _ (by omega) (by omega)
  · rw [if_neg h, decide_eq_false]; rintro rfl; exact h rfl
theorem getD_ext {a b : List (List Int)} (hl : a.length = b.length) (h : ∀ i, i < a.length → a.getD i [] = b.getD i []) : a = b := by
  apply List.ext_getElem hl
  intro i h1 h2
  have := h i h1
  rwa [List.getD_eq_getElem?_getD, List.getD_eq_getElem?_getD, List.getElem?_eq_getElem h1, List.getElem?_eq_getElem h2] at this
set_option maxRecDepth 100000 in
set_option maxHeartbeats 4000000 in
theorem equalFunc_calls (w : World) (A : Option Addr) (c : Nat) (a : List (List Int)) (A2 : Option Addr) (c2 : Nat) (b : List (List Int)) (hr : kM.C w A a.length a) (hc : a.length ≤ c) (hr2 : kM.C w A2 b.length b) (hc2 : b.length ≤ c2) (hok : okIn a) (hok2 : okIn b) :
    Calls Try.prog 43 #[.slice A a.length c, .slice A2 b.length c2, .func (.func 44) #[] #[]] w fun e w' => e = .returned (.bool (decide (a = b))) ∧ Below w.heap.size w w' := by
  by_cases hl : a.length = b.length
  · obtain ⟨bb, hbb⟩ : ∃ bb, decide (a = b) = bb := ⟨_, rfl⟩
    rw [hbb]
    have hl1 := hok.1
    obtain ⟨n, hn⟩ : ∃ n, a.length = n := ⟨_, rfl⟩
    have hn2 : b.length = n := by omega
    have hext : Aside0 ((∀ i, i < n → a.getD i [] = b.getD i []) → bb = true) := ⟨fun h => by rw [← hbb]; exact decide_eq_true (getD_ext hl (by rw [hn]; exact h))⟩
    have hnex : Aside0 (∀ i, a.getD i [] ≠ b.getD i [] → bb = false) := ⟨fun i h => by rw [← hbb]; exact decide_eq_false (fun e => h (by rw [e]))⟩
    have hma : Aside0 (∀ i, i < n → (a.getD i []).length ≤ 1000000) := ⟨fun i hi => hok.2 _ (by rw [List.getD_eq_getElem?_getD, List.getElem?_eq_getElem (by omega)]; exact List.getElem_mem _)⟩
    rw [hn] at hr hc hl1 ⊢
    rw [hn2] at hr2 hc2 ⊢
    replace hr := Aside0.mk hr
    replace hr2 := Aside0.mk hr2
    clear hbb hl hok hok2 hn hn2
    go_enter Try.func43, Try.ntmps43
    go_wp2
    go_loopw [17] (fun i wr => ∃ j : Nat, i = .int .i64 j ∧ j ≤ n ∧ Aside0 (Below w.heap.size w wr) ∧ Aside0 (∀ t, t < j → a.getD t [] = b.getD t [])) (fun i _ => n - (intOf i).toNat)
    case atStart => exact ⟨0, rfl, Nat.zero_le _, ⟨Below.refl _ _⟩, ⟨fun t ht => by omega⟩⟩
    case round =>
      obtain ⟨j, rfl, hj, hB, hE⟩ := hrel
      by_cases hlt : j < n
      · obtain ⟨ad, Ai, ci, hA, ga, hle, hk⟩ := rowsM_at (Kd.C_below hr.out hB.out) j hlt
        subst hA
        obtain ⟨ad2, Aj, cj, hA2, gb, hle2, hk2⟩ := rowsM_at (Kd.C_below hr2.out hB.out) j hlt
        subst hA2
        have hcall := slices_Equal_int_int.calls _ Ai ci _ Aj cj _ _ wr hk hle hk2 hle2 (eq_at _ _ (hma.out j hlt))
        obtain ⟨x, hx⟩ : ∃ x, a.getD j [] = x := ⟨_, rfl⟩
        obtain ⟨y, hy⟩ : ∃ y, b.getD j [] = y := ⟨_, rfl⟩
        rw [hx] at ga hcall hk hle
        rw [hy] at gb hcall hk2 hle2
        obtain ⟨r, hr'⟩ : ∃ r, decide (x = y) = r := ⟨_, rfl⟩
        rw [hr'] at hcall
        replace hcall := Aside0.mk hcall
        replace hx := Aside0.mk hx
        replace hy := Aside0.mk hy
        replace hr' := Aside0.mk hr'
        clear hk hk2
        cases r with
        | true =>
          go_wp2_with (go_at_call 44; refine hcall.out.mono ?_; rintro e w' ⟨rfl, hd⟩; have hB2 := Aside0.mk (hB.out.trans (hd.below.mono hB.out.size)); clear hd)
          go_roundw
          case rel => exact ⟨j + 1, by go_num, hlt, hB2, ⟨fun t ht => by
            rcases Nat.lt_or_ge t j with h | h
            · exact hE.out t h
            · obtain rfl : t = j := by omega
              rw [hx.out, hy.out]; exact of_decide_eq_true hr'.out⟩⟩
          case measure => simp [intOf]; omega
        | false =>
          go_wp2_with (go_at_call 44; refine hcall.out.mono ?_; rintro e w' ⟨rfl, hd⟩; have hB2 := Aside0.mk (hB.out.trans (hd.below.mono hB.out.size)); clear hd)
          go_ret
          exact ⟨by rw [hnex.out j (by rw [hx.out, hy.out]; exact of_decide_eq_false hr'.out)]; rfl, hB2.out⟩
      · obtain rfl : j = n := by omega
        go_wp2
        go_ret
        exact ⟨by rw [hext.out hE.out]; rfl, hB.out⟩
  · have e : decide (a = b) = false := decide_eq_false (fun e => hl (by rw [e]))
    rw [e]
    have hne : ¬ ((a.length : Int) = (b.length : Int)) := by omega
    clear hr hr2 e hok hok2
    go_enter Try.func43, Try.ntmps43
    go_wp2
    go_ret
    exact ⟨rfl, Below.refl _ _⟩
theorem valid1_calls (W : World) (Am : Option Addr) (cm : Nat) (m : List Int) (bm : Nat) (n : Int) (hb : W.cell? ⟨bm, 0, none⟩ = some (.int .i64 n)) :
    Calls Try.prog 42 #[.slice Am m.length cm, .pointer (some ⟨bm, 0, none⟩)] W fun e w' => e = .returned (.bool ((m.length : Int) != n)) ∧ Below W.heap.size W w' := by
  go_enter Try.func42, Try.ntmps42
  go_wp2
  go_ret
  exact ⟨rfl, Below.refl _ _⟩
set_option maxRecDepth 100000 in
set_option maxHeartbeats 4000000 in
theorem valid_calls (w : World) (A : Option Addr) (c : Nat) (u : List (List Int)) (n : Int) (hr : kM.C w A u.length u) (hc : u.length ≤ c) (hok : okIn u) :
    Calls Try.prog 15 #[.slice A u.length c, .int .i64 n] w fun e w' => e = .returned (.bool (validL u n)) ∧ Below w.heap.size w w' := by
  obtain ⟨w1, hw1⟩ : ∃ w1, w1 = w.alloc (.cells #[.int .i64 n] 3) := ⟨_, rfl⟩
  have hb1 : Below w.heap.size w w1 := by rw [hw1]; exact below_alloc (Below.refl _ _) _
  have hx1 : w1.heap[w.heap.size]? = some (.cells #[.int .i64 n] 3 (0, 0)) := by rw [hw1]; exact blk_new w _
  have hmk := Aside0.mk (make_calls w1 A c u (Kd.C_below hr hb1) hc hok.1 hok.2)
  replace hb1 := Aside0.mk hb1
  replace hx1 := Aside0.mk hx1
  subst hw1
  go_enter Try.func15, Try.ntmps15
  go_wp2_with fail
  refine hmk.out.mono ?_
  rintro e w2 ⟨v, rfl, hS, hb2⟩
  obtain ⟨Av, cv, rfl, hcv, hCv⟩ := Kd.S_reads hS
  have hb02 := hb1.out.trans (hb2.mono hb1.out.size)
  have hx2 := blk_below hx1.out hb2
  have heq := equalFunc_calls w2 A c u Av cv (makeL u) (Kd.C_below hr hb02) hc hCv hcv hok (makeL_ok hok)
  obtain ⟨b, hb⟩ : ∃ b, decide (u = makeL u) = b := ⟨_, rfl⟩
  rw [hb] at heq
  have hval : Aside0 (validL u n = (b && !(u.any fun m => (m.length : Int) != n))) := ⟨by rw [validL, hb]⟩
  replace heq := Aside0.mk heq
  replace hb02 := Aside0.mk hb02
  replace hx2 := Aside0.mk hx2
  clear hS hCv hb2 hmk hb1 hx1 hb
  go_wp2_with fail
  refine heq.out.mono ?_
  rintro e w3 ⟨rfl, hb3⟩
  have hb03 := hb02.out.trans (hb3.mono hb02.out.size)
  have hx3 := blk_below hx2.out hb3
  have hcf := containsFunc_in w3 A c (valsOf w3 A u.length) 42 #[] #[.pointer (some ⟨w.heap.size, 0, none⟩)] (fun i => (fun m => (m.length : Int) != n) (u.getD i [])) (valsOf_vals (Kd.C_below hr hb03))
    (fun i W hi hb => by
      rw [valsOf_len] at hi
      obtain ⟨Ai, ci, e, hle, hk⟩ := valsOf_at (Kd.C_below hr hb03) i hi
      rw [show (Value.slice none 0 0) = nilV from rfl, e]
      exact valid1_calls W Ai ci _ w.heap.size n (cell_of_one (blk_below hx3 hb)))
    (by rw [valsOf_len]; exact hok.1) (enters_of Try.func42 (by kernel_rfl) rfl)
  rw [valsOf_len, any_range u (fun m => (m.length : Int) != n)] at hcf
  obtain ⟨bb, hbb⟩ : ∃ bb, (u.any fun m => (m.length : Int) != n) = bb := ⟨_, rfl⟩
  rw [hbb] at hcf hval
  replace hcf := Aside0.mk hcf
  replace hb03 := Aside0.mk hb03
  clear hb3 hx3 heq hbb
  cases b with
  | true =>
    go_wp2_with (go_at_call 45; refine hcf.out.mono ?_; rintro e w4 ⟨rfl, hb4⟩; have hb04 := Aside0.mk (hb03.out.trans (hb4.mono hb03.out.size)); clear hb4)
    go_ret
    exact ⟨by rw [hval.out]; simp, hb04.out⟩
  | false =>
    go_wp2
    go_ret
    exact ⟨by rw [hval.out]; simp, hb03.out⟩

/-! ### slices.Grow, slices.Concat, upset.Union -/
def GrowPost (w : World) (e : Ending) (w' : World) : Prop := ∃ v, e = .returned v ∧ w'.ownsRow w.heap.size 28 1 v 0 [] ∧ Below w.heap.size w w'
set_option maxRecDepth 100000 in
set_option maxHeartbeats 4000000 in
theorem grow_calls (w : World) (n : Nat) (hn : n ≤ 2000000) :
    Calls Try.prog 58 #[.slice none 0 0, .int .i64 (n : Int)] w (GrowPost w) := by
  by_cases h0 : n = 0
  · subst h0
    go_enter Try.func58, Try.ntmps58
    go_wp2
    go_ret
    exact ⟨_, rfl, own_nil _ _ _ _, Below.refl _ _⟩
  · obtain ⟨i0, hi0, hz0, hzs, hzb⟩ := info_parts infoR
    obtain ⟨v', w', hrun, hown, hg, _⟩ := run_append_zeros (P := Try.prog) w w.heap.size 22 3 22 28 i0 (.slice none 0 0) 1 24 Try.underlying22 Try.underlying3 hi0 hz0 hzs hzb rfl (by decide) (by decide) (.slice none 0 0) 0 [] (own_nil _ _ _ _) .i64 n
      (by rw [zerosR]; intro u hu; rw [List.eq_of_mem_replicate hu]; rfl) (by omega) (Nat.le_refl _)
    have hbel : Below w.heap.size w w' := ⟨hg.os, hg.tape, hg.output, hg.size, fun k hk => hg.block k hk (by simp [Value.ownBlock])⟩
    rcases own_open hown with ⟨_, h, _⟩ | ⟨g, tl, rfl, hbg, _, hm, hh⟩
    · omega
    · have hown2 : Aside0 (w'.ownsRow w.heap.size 28 1 (.slice (some ⟨g, 0, none⟩) 0 (0 + n + tl.length)) 0 []) := ⟨by
        have := own_mk (base := w.heap.size) (vs := []) (tl := ([] ++ (Builtin.zeroCells (Value.slice none 0 0).cells n).toList) ++ tl) hbg (by rw [zerosR]; simp; omega) hh
        rw [zerosR] at this
        simpa [Nat.add_assoc] using this⟩
      rw [Nat.zero_add] at hrun hown2
      replace hbel := Aside0.mk hbel
      have hpos : (0 : Int) < (n : Int) := by omega
      clear hown hh hg
      go_enter Try.func58, Try.ntmps58
      go_wp2_with (at_builtin; refine Lib.wpList_append_run _ rfl _ _ _ _ rfl _ _ rfl rfl _ _ hrun ?_)
      go_ret
      exact ⟨_, rfl, hown2.out, hbel.out⟩
def CatSt (na nb : Nat) (s i : Value) : Prop := (i = .int .i64 0 ∧ s = .int .i64 0) ∨ (i = .int .i64 1 ∧ s = .int .i64 (na : Int)) ∨ (i = .int .i64 2 ∧ s = .int .i64 ((na : Int) + (nb : Int)))
def CatRow (a b xs : List (List Int)) (i : Value) : Prop := (i = .int .i64 0 ∧ xs = []) ∨ (i = .int .i64 1 ∧ xs = a) ∨ (i = .int .i64 2 ∧ xs = a ++ b)
def CatPost (w : World) (l : List (List Int)) (e : Ending) (w' : World) : Prop :=
  ∃ v, e = .returned v ∧ (under (S0 w) kM).R 28 w' w.heap.size (fun _ => True) v l ∧ Below w.heap.size w w'
set_option maxRecDepth 100000 in
set_option maxHeartbeats 8000000 in
theorem concat_calls (w : World) (sb : Nat) (A : Option Addr) (c : Nat) (a : List (List Int)) (A2 : Option Addr) (c2 : Nat) (b : List (List Int)) (hS : w.heap[sb]? = some (.cells #[.slice A a.length c, .slice A2 b.length c2] 22 (0, 0))) (hr : kM.C w A a.length a) (hc : a.length ≤ c) (hr2 : kM.C w A2 b.length b) (hc2 : b.length ≤ c2) (hl : a.length ≤ 1000000) (hl2 : b.length ≤ 1000000) :
    Calls Try.prog 48 #[.slice (some ⟨sb, 0, none⟩) 2 2] w (CatPost w (a ++ b)) := by
  have g0 : w.cell? ⟨sb, 0, none⟩ = some (.slice A a.length c) := (blk_cell hS 0).trans rfl
  have g1 : w.cell? ⟨sb, 1, none⟩ = some (.slice A2 b.length c2) := (blk_cell hS 1).trans rfl
  have hgrow := Aside0.mk (fun W => grow_calls W (a.length + b.length) (by omega))
  replace hS := Aside0.mk hS
  go_enter Try.func48, Try.ntmps48
  go_wp2
  go_loopw [3, 11] (fun s i wr => Aside0 (CatSt a.length b.length s i) ∧ Aside0 (Below w.heap.size w wr)) (fun _ i _ => 2 - (intOf i).toNat)
  case atStart => exact ⟨⟨.inl ⟨rfl, rfl⟩⟩, ⟨Below.refl _ _⟩⟩
  case round =>
    clear g0 g1
    obtain ⟨hst, hB⟩ := hrel
    have hS2 := (hB.out.block sb (blk_lt hS.out)).trans hS.out
    have g0 : wr.cell? ⟨sb, 0, none⟩ = some (.slice A a.length c) := (blk_cell hS2 0).trans rfl
    have g1 : wr.cell? ⟨sb, 1, none⟩ = some (.slice A2 b.length c2) := (blk_cell hS2 1).trans rfl
    clear hS2
    rcases hst.out with ⟨rfl, rfl⟩ | ⟨rfl, rfl⟩ | ⟨rfl, rfl⟩
    · clear hst
      go_wp2
      go_roundw
      case rel => exact ⟨⟨.inr (.inl ⟨rfl, rfl⟩)⟩, hB⟩
      case measure => simp [intOf]
    · clear hst
      go_wp2
      go_roundw
      case rel => exact ⟨⟨.inr (.inr ⟨rfl, rfl⟩)⟩, hB⟩
      case measure => simp [intOf]
    · clear hst
      go_wp2_with (go_at_call 58; refine (hgrow.out _).mono ?_; rintro e w2 ⟨v, rfl, ho, hb⟩; have hb2 := Aside0.mk (hB.out.trans (hb.mono hB.out.size)); have ho2 := Aside0.mk (own_weaken ho hB.out.size); clear hb ho)
      have hR0 : Aside0 ((under (S0 w) kM).R 28 w2 w.heap.size (fun _ => True) v []) := ⟨⟨fun _ _ => trivial, [], ho2.out, Reps.none _ _⟩⟩
      clear ho2 g0 g1
      go_loopw [6, 27] (fun v i wr => ∃ xs, Aside0 (CatRow a b xs i) ∧ Aside0 (Below w.heap.size w wr) ∧ Aside0 ((under (S0 w) kM).R 28 wr w.heap.size (fun _ => True) v xs)) (fun _ i _ => 2 - (intOf i).toNat)
      case atStart => exact ⟨[], ⟨.inl ⟨rfl, rfl⟩⟩, hb2, hR0⟩
      case round =>
        clear hB hb2 hR0
        obtain ⟨xs, hst, hB, hR⟩ := hrel
        have hS2 := (hB.out.block sb (blk_lt hS.out)).trans hS.out
        have g0 : wr.cell? ⟨sb, 0, none⟩ = some (.slice A a.length c) := (blk_cell hS2 0).trans rfl
        have g1 : wr.cell? ⟨sb, 1, none⟩ = some (.slice A2 b.length c2) := (blk_cell hS2 1).trans rfl
        have hsz := hB.out.size
        clear hS2
        rcases hst.out with ⟨rfl, rfl⟩ | ⟨rfl, rfl⟩ | ⟨rfl, rfl⟩
        · clear hst
          go_wp2_with (at_builtin; refine Kd.R_append_rows (under (S0 w) kM) (w0 := w) (Rr := (under (S0 w) kM).K wr) w.heap.size rfl (.tmp 31) (.tmp 32) 22 28 (.slice none 0 0) 24 rfl Try.underlying22 infoR rfl (Nat.zero_lt_one) (by decide) u6 [] a A a.length c (fun _ => True) (fun _ => False) rfl rfl hR.out (under_of hr hB.out) (fun _ _ h => h) (fun _ h => h.elim) (fun _ _ => trivial) hB.out hsz (by simp; omega) ?_; intro v3 w3 hR3 hB3 _ _; replace hR3 := Aside0.mk hR3; replace hB3 := Aside0.mk hB3)
          go_roundw
          case rel => exact ⟨a, ⟨.inr (.inl ⟨rfl, rfl⟩)⟩, hB3, hR3⟩
          case measure => simp [intOf]
        · clear hst
          go_wp2_with (at_builtin; refine Kd.R_append_rows (under (S0 w) kM) (w0 := w) (Rr := (under (S0 w) kM).K wr) w.heap.size rfl (.tmp 31) (.tmp 32) 22 28 (.slice none 0 0) 24 rfl Try.underlying22 infoR rfl (Nat.zero_lt_one) (by decide) u6 xs b A2 b.length c2 (fun _ => True) (fun _ => False) rfl rfl hR.out (under_of hr2 hB.out) (fun _ _ h => h) (fun _ h => h.elim) (fun _ _ => trivial) hB.out hsz (by omega) ?_; intro v3 w3 hR3 hB3 _ _; replace hR3 := Aside0.mk hR3; replace hB3 := Aside0.mk hB3)
          go_roundw
          case rel => exact ⟨xs ++ b, ⟨.inr (.inr ⟨rfl, rfl⟩)⟩, hB3, hR3⟩
          case measure => simp [intOf]
        · clear hst
          go_wp2
          go_ret
          exact ⟨_, rfl, hR.out, hB.out⟩
def unionL (a b : List (List Int)) : List (List Int) := makeL (a ++ b)
def UnPost (w : World) (l : List (List Int)) (e : Ending) (w' : World) : Prop :=
  ∃ v, e = .returned v ∧ Kd.S kM 28 w' w.heap.size (fun _ => True) v l ∧ Below w.heap.size w w'
set_option maxRecDepth 100000 in
set_option maxHeartbeats 8000000 in
theorem union_calls (w : World) (A : Option Addr) (c : Nat) (a : List (List Int)) (A2 : Option Addr) (c2 : Nat) (b : List (List Int)) (hr : kM.C w A a.length a) (hc : a.length ≤ c) (hr2 : kM.C w A2 b.length b) (hc2 : b.length ≤ c2) (hok : okIn (a ++ b)) :
    Calls Try.prog 19 #[.slice A a.length c, .slice A2 b.length c2] w (UnPost w (unionL a b)) := by
  have hlab : a.length + b.length ≤ 1000000 := by have := hok.1; rwa [List.length_append] at this
  obtain ⟨w1, hw1⟩ : ∃ w1, w1 = w.alloc (.cells #[.slice A a.length c, .slice A2 b.length c2] 22) := ⟨_, rfl⟩
  have hb1 : Below w.heap.size w w1 := by rw [hw1]; exact below_alloc (Below.refl _ _) _
  have hx1 : w1.heap[w.heap.size]? = some (.cells #[.slice A a.length c, .slice A2 b.length c2] 22 (0, 0)) := by rw [hw1]; exact blk_new w _
  have hcat := Aside0.mk (concat_calls w1 w.heap.size A c a A2 c2 b hx1 (Kd.C_below hr hb1) hc (Kd.C_below hr2 hb1) hc2 (by omega) (by omega))
  replace hb1 := Aside0.mk hb1
  clear hx1 hr hr2
  subst hw1
  go_enter Try.func19, Try.ntmps19
  go_wp2_with fail
  refine hcat.out.mono ?_
  rintro e w2 ⟨v, rfl, hR, hb2⟩
  obtain ⟨Av, cv, rfl, hcv, hCv⟩ := Kd.R_reads hR
  have hCv2 := under_C hCv (show S0 _ w2 from hb2)
  have hb02 := hb1.out.trans (hb2.mono hb1.out.size)
  have hmk := Aside0.mk (make_calls w2 Av cv (a ++ b) hCv2 hcv hok.1 hok.2)
  obtain ⟨n, hn⟩ : ∃ n, (a ++ b).length = n := ⟨_, rfl⟩
  rw [hn] at hmk ⊢
  replace hb02 := Aside0.mk hb02
  clear hR hCv hb2 hb1 hcat hCv2 hn hcv
  go_wp2_with fail
  refine hmk.out.mono ?_
  rintro e w3 ⟨v3, rfl, hS3, hb3⟩
  have hS4 := Aside0.mk (Kd.S_lower hS3 hb02.out.size)
  have hb03 := Aside0.mk (hb02.out.trans (hb3.mono hb02.out.size))
  clear hS3 hb3 hmk
  go_wp2
  go_ret
  exact ⟨_, rfl, hS4.out, hb03.out⟩

/-! ### as the printed texts ask for them -/
def upset_Has.f (l0 : List (List Int)) (l1 : List Int) : Option (Bool) := if okIn l0 ∧ l1.length ≤ 1000000 then some (hasL l0 l1) else none
theorem upset_Has.calls (A0 : Option Addr) (c0 : Nat) (l0 : List (List Int)) (A1 : Option Addr) (c1 : Nat) (l1 : List Int) (r : Bool) (w : World) (hr0 : Kd.C (Kd.slice 3 (Kd.int .i64)) w A0 l0.length l0) (hc0 : l0.length ≤ c0) (hr1 : Kd.C (Kd.int .i64) w A1 l1.length l1) (hc1 : l1.length ≤ c1) (h : upset_Has.f l0 l1 = some r) :
    Calls Try.prog 17 #[.slice A0 l0.length c0, .slice A1 l1.length c1] w fun e w' => e = .returned (.bool r) ∧ Below w.heap.size w w' := by
  unfold upset_Has.f at h
  split at h
  · rename_i hok
    injection h with h
    subst h
    exact has_calls w A0 c0 l0 A1 c1 l1 hr0 hc0 hr1 hc1 hok.1 hok.2
  · cases h
def upset_Subset.f (l0 : List (List Int)) (l1 : List (List Int)) : Option (Bool) := if okIn l0 ∧ okIn l1 then some (subL l0 l1) else none
theorem upset_Subset.calls (A0 : Option Addr) (c0 : Nat) (l0 : List (List Int)) (A1 : Option Addr) (c1 : Nat) (l1 : List (List Int)) (r : Bool) (w : World) (hr0 : Kd.C (Kd.slice 3 (Kd.int .i64)) w A0 l0.length l0) (hc0 : l0.length ≤ c0) (hr1 : Kd.C (Kd.slice 3 (Kd.int .i64)) w A1 l1.length l1) (hc1 : l1.length ≤ c1) (h : upset_Subset.f l0 l1 = some r) :
    Calls Try.prog 23 #[.slice A0 l0.length c0, .slice A1 l1.length c1] w fun e w' => e = .returned (.bool r) ∧ Below w.heap.size w w' := by
  unfold upset_Subset.f at h
  split at h
  · rename_i hok
    injection h with h
    subst h
    exact subset_calls w A0 c0 l0 A1 c1 l1 hr0 hc0 hr1 hc1 hok.1 hok.2
  · cases h
def upset_Valid.f (l0 : List (List Int)) (a1 : Int) : Option (Bool) := if okIn l0 then some (validL l0 a1) else none
theorem upset_Valid.calls (A0 : Option Addr) (c0 : Nat) (l0 : List (List Int)) (a1 : Int) (r : Bool) (w : World) (hr0 : Kd.C (Kd.slice 3 (Kd.int .i64)) w A0 l0.length l0) (hc0 : l0.length ≤ c0) (h : upset_Valid.f l0 a1 = some r) :
    Calls Try.prog 15 #[.slice A0 l0.length c0, .int .i64 a1] w fun e w' => e = .returned (.bool r) ∧ Below w.heap.size w w' := by
  unfold upset_Valid.f at h
  split at h
  · rename_i hok
    injection h with h
    subst h
    exact valid_calls w A0 c0 l0 a1 hr0 hc0 hok
  · cases h
def upset_Union.f (l0 : List (List Int)) (l1 : List (List Int)) : Option ((List (List Int))) := if okIn (l0 ++ l1) then some (unionL l0 l1) else none
theorem upset_Union.calls (A0 : Option Addr) (c0 : Nat) (l0 : List (List Int)) (A1 : Option Addr) (c1 : Nat) (l1 : List (List Int)) (r : List (List Int)) (w : World) (hr0 : Kd.C (Kd.slice 3 (Kd.int .i64)) w A0 l0.length l0) (hc0 : l0.length ≤ c0) (hr1 : Kd.C (Kd.slice 3 (Kd.int .i64)) w A1 l1.length l1) (hc1 : l1.length ≤ c1) (h : upset_Union.f l0 l1 = some r) :
    Calls Try.prog 19 #[.slice A0 l0.length c0, .slice A1 l1.length c1] w fun e w' => ∃ v0_ : Value, e = .returned (v0_) ∧ Kd.S (Kd.slice 3 (Kd.int .i64)) 28 w' w.heap.size (fun _ => True) v0_ r ∧ Below w.heap.size w w' := by
  unfold upset_Union.f at h
  split at h
  · rename_i hok
    injection h with h
    subst h
    exact union_calls w A0 c0 l0 A1 c1 l1 hr0 hc0 hr1 hc1 hok
  · cases h

end Go.Proofs.Ytliagbliaiigaaa.Hy
