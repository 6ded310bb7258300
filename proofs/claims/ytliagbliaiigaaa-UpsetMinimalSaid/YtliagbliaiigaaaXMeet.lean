/- By hand (up_meet): a part of this seat's proofs. -/
import Derived.Test.YtliagbliaiigaaaXUps
import Derived.Test.YtliagbliaiigaaaH4
import Derived.Deep.LoopGhost
namespace Go.Proofs.Ytliagbliaiigaaa.Hy
open Go.RowKit Go.Shelf Go.Proofs.YtliagbliaiigaaaW.PrintWords Go.Proofs.YtliagbliaiigaaaW.PrintLast Go.Proofs.YtliagbliaiigaaaW.PrintMore
set_option linter.unusedVariables false
set_option linter.unusedSimpArgs false
attribute [local go_sem] Oper.semAt_some
/-! ### upset.Meet -/
def maxL (x y : List Int) : List Int := if x.length = y.length then List.zipWith mx x y else []
theorem max_loop (a b : List Int) (hab : a.length = b.length) (hl : a.length ≤ 1000000) : ∀ (m i k : Nat) (t : List Int), i + m = a.length → m < k → t.length = a.length → t.take i = (List.zipWith mx a b).take i →
    marking_Max.l0 k a b t (a.length : Int) i = some (List.zipWith mx a b) := by
  intro m
  induction m with
  | zero =>
    intro i k t hi hk ht hp
    obtain ⟨k, rfl⟩ : ∃ j, k = j + 1 := ⟨k - 1, by omega⟩
    simp only [marking_Max.l0, if_neg (show ¬ (i : Int) < (a.length : Int) by omega)]
    rw [List.take_of_length_le (by omega), List.take_of_length_le (by simp; omega)] at hp
    rw [hp]
  | succ m ih =>
    intro i k t hi hk ht hp
    obtain ⟨k, rfl⟩ : ∃ j, k = j + 1 := ⟨k - 1, by omega⟩
    simp only [marking_Max.l0, if_pos (show (i : Int) < (a.length : Int) by omega), if_pos (show (0 : Int) ≤ (i : Int) by omega), if_pos (show (i : Int) < (b.length : Int) by omega), if_pos (show (i : Int) < (t.length : Int) by omega), wI (show i < 9223372036854775807 by omega), Int.toNat_natCast]
    refine ih (i + 1) k _ (by omega) (by omega) (by simpa using ht) ?_
    have h1 : i < (t.set i (mx (rd a i) (rd b i))).length := by rw [List.length_set]; omega
    have h2 : i < (List.zipWith mx a b).length := by simp; omega
    rw [List.take_succ_eq_append_getElem h1, List.take_succ_eq_append_getElem h2, List.take_set, List.set_eq_of_length_le (by rw [List.length_take]; omega), hp]
    congr 2
    rw [List.getElem_set_self, List.getElem_zipWith, rdI_nat, rdI_nat, List.getD_eq_getElem?_getD, List.getD_eq_getElem?_getD, List.getElem?_eq_getElem (show i < a.length by omega), List.getElem?_eq_getElem (show i < b.length by omega)]
    rfl
theorem max_at (a b : List Int) (hl : a.length ≤ 1000000) : marking_Max.f (a.length + 1) a b = some (maxL a b) := by
  unfold marking_Max.f maxL
  by_cases h : a.length = b.length
  · rw [if_pos (by omega), if_pos (by omega), if_pos (by simp; omega), if_pos h]
    exact max_loop a b h hl a.length 0 _ _ (by omega) (by omega) (by simp) (by simp)
  · rw [if_neg (by omega), if_neg h]
structure OutR (W : World) (B : Nat) (v : Value) (ps : List (Value × List Int)) : Prop where
  own : W.ownsRow B 28 1 v ps.length (ps.map (·.1))
  el : ∀ p ∈ ps, (Kd.int .i64).R 3 W B (fun _ => True) p.1 p.2
namespace OutR
variable {W W' : World} {B : Nat} {v v' : Value} {ps : List (Value × List Int)}
theorem below (h : OutR W B v ps) (hb : Below W.heap.size W W') : OutR W' B v ps :=
  ⟨own_move h.own (fun k hk => hb.block k (own_lt h.own k hk)), fun p hp => Kd.R_below (h.el p hp) hb⟩
theorem C (h : OutR W B v ps) (hl : ps.length ≤ 1000000) : ∃ A c, v = .slice A (ps.map (·.2)).length c ∧ (ps.map (·.2)).length ≤ c ∧ kM.C W A (ps.map (·.2)).length (ps.map (·.2)) := by
  rw [List.length_map]
  rcases own_open h.own with ⟨e, h0, hn⟩ | ⟨g, tl, e, _, _, hm, hh⟩
  · exact ⟨none, 0, by rw [e, h0], by omega, by rw [List.length_map], by omega, fun hp => by omega⟩
  · refine ⟨_, _, e, by omega, by rw [List.length_map], by omega, fun _ => ⟨_, rfl, fun j p hp => ?_⟩⟩
    have hj : j < ps.length := by
      have := (List.getElem?_eq_some_iff.1 hp).1
      simpa using this
    rw [List.getElem?_map, List.getElem?_eq_getElem hj] at hp
    have hp' : ps[j].2 = p := by simpa using hp
    obtain ⟨Ax, cx, ex, hcx, hCx⟩ := Kd.R_reads (h.el _ (List.getElem_mem hj))
    rw [hp'] at ex hcx hCx
    refine ⟨[ps[j].1], rfl, ⟨Ax, cx, by rw [ex], hcx, hCx⟩, fun i u hu => ?_⟩
    have hi : i = 0 := by
      have := (List.getElem?_eq_some_iff.1 hu).1
      simpa using this
    subst hi
    have hu' : u = ps[j].1 := by simpa using hu.symm
    have hs : (Kd.slice 3 (Kd.int .i64)).sz = 1 := rfl
    rw [hs, Nat.mul_one, Nat.add_zero, add_at, Nat.zero_add, blk_cell hh, List.getElem?_toArray, List.getElem?_append_left (by simpa using hj), List.getElem?_map, List.getElem?_eq_getElem hj, hu']
    rfl
theorem snoc (h : OutR W B v ps) {u : Value} {x : List Int} (hu : (Kd.int .i64).R 3 W B (fun _ => True) u x) (hg : W.grownBy W' v.ownBlock) (ho : W'.ownsRow B 28 1 v' (ps.length + 1) (ps.map (·.1) ++ [u])) : OutR W' B v' (ps ++ [(u, x)]) := by
  have hc : Chg (Old v) W W' := Chg.of_grown hg (fun k hk => hk.symm)
  refine ⟨by simpa using ho, fun p hp => ?_⟩
  rcases List.mem_append.1 hp with hp | hp
  · exact el_chg (h.el p hp) h.own hc
  · rw [List.mem_singleton.1 hp]; exact el_chg hu h.own hc
end OutR
def meetL (a b : List (List Int)) : List (List Int) := makeL ((makeL a).flatMap fun x => (makeL b).map fun y => maxL x y)
theorem maxL_len (x y : List Int) : (maxL x y).length ≤ x.length := by
  unfold maxL
  split
  · simp; omega
  · simp
set_option maxRecDepth 100000 in
set_option maxHeartbeats 8000000 in
theorem meet_calls (w : World) (A : Option Addr) (c : Nat) (a : List (List Int)) (A2 : Option Addr) (c2 : Nat) (b : List (List Int)) (hr : kM.C w A a.length a) (hc : a.length ≤ c) (hr2 : kM.C w A2 b.length b) (hc2 : b.length ≤ c2) (hok : okIn a) (hok2 : okIn b) (hab : a.length * b.length ≤ 1000000) :
    Calls Try.prog 21 #[.slice A a.length c, .slice A2 b.length c2] w (UnPost w (meetL a b)) := by
  have hmkb := Aside0.mk (make_calls w A2 c2 b hr2 hc2 hok2.1 hok2.2)
  have hla := makeL_len a
  have hlb := makeL_len b
  obtain ⟨L, hL⟩ : ∃ L, makeL a = L := ⟨_, rfl⟩
  obtain ⟨R, hR⟩ : ∃ R, makeL b = R := ⟨_, rfl⟩
  have hLx : Aside0 (∀ x ∈ L, x.length ≤ 24) := ⟨fun x hx => (makeL_mem (by rw [hL]; exact hx)).2.2.1⟩
  have hfin : Aside0 (meetL a b = makeL (L.flatMap fun x => R.map fun y => maxL x y)) := ⟨by rw [meetL, hL, hR]⟩
  have hLR : Aside0 (L.length * R.length ≤ 1000000) := ⟨by rw [← hL, ← hR]; exact Nat.le_trans (Nat.mul_le_mul hla hlb) hab⟩
  rw [hL] at hla
  rw [hR] at hlb
  have hL1 : L.length ≤ 1000000 := Nat.le_trans hla hok.1
  have hR1 : R.length ≤ 1000000 := Nat.le_trans hlb hok2.1
  unfold UnPost
  rw [hfin.out]
  have hmka : Aside0 (∀ W, Below w.heap.size w W → Calls Try.prog 13 #[.slice A a.length c] W (MkPost W a)) := ⟨fun W hb => make_calls W A c a (Kd.C_below hr hb) hc hok.1 hok.2⟩
  clear hr hr2 hok hok2
  go_enter Try.func21, Try.ntmps21
  go_wp2_with fail
  refine hmkb.out.mono ?_
  rintro e w1 ⟨v1, rfl, hS1, hb1⟩
  obtain ⟨A1, c1, rfl, hc1, hC1⟩ := Kd.S_reads hS1
  rw [hR] at hc1 hC1 ⊢
  replace hb1 := Aside0.mk hb1
  clear hS1 hmkb
  have hmk2 := Aside0.mk (hmka.out w1 hb1.out)
  clear hmka
  go_wp2_with fail
  refine hmk2.out.mono ?_
  rintro e w2 ⟨v2, rfl, hS2, hb2⟩
  obtain ⟨A3, c3, rfl, hc3, hC3⟩ := Kd.S_reads hS2
  rw [hL] at hc3 hC3 ⊢
  have hb02 := Aside0.mk (hb1.out.trans (hb2.mono hb1.out.size))
  have hC1b := Aside0.mk (Kd.C_below hC1 hb2)
  replace hC3 := Aside0.mk hC3
  clear hS2 hb2 hC1 hmk2 hb1 hL hR
  have hO0 : Aside0 (OutR w2 w2.heap.size (.slice none 0 0) []) := ⟨⟨own_nil _ _ _ _, by simp⟩⟩
  go_wp2
  go_loopg [5, 16] L.length (fun kx v i wr => ∃ (j : Nat) (ps : List (Value × List Int)), i = .int .i64 j ∧ j ≤ L.length ∧ L.length - j ≤ kx ∧ Aside0 (Below w2.heap.size w2 wr) ∧ Aside0 (OutR wr w2.heap.size v ps) ∧ Aside0 (ps.map (·.2) = (L.take j).flatMap fun x => R.map fun y => maxL x y))
  case atStart => exact ⟨0, [], rfl, Nat.zero_le _, by omega, ⟨Below.refl _ _⟩, hO0, ⟨rfl⟩⟩
  case round =>
    clear hO0
    obtain ⟨j, ps, rfl, hj, hkx, hB, hO, hps⟩ := hrel
    by_cases hlt : j < L.length
    · obtain ⟨ad, Ax, cx, hA, ga2, hlex, hkx'⟩ := rowsM_at hC3.out j hlt
      subst hA
      have ga := pw_cell_below hB.out ga2
      clear ga2
      have hmem : L.getD j [] ∈ L := by rw [List.getD_eq_getElem?_getD, List.getElem?_eq_getElem hlt]; exact List.getElem_mem hlt
      have hx24 := hLx.out _ hmem
      have htk : Aside0 (L.take (j + 1) = L.take j ++ [L.getD j []]) := ⟨by rw [List.take_succ_eq_append_getElem hlt, List.getD_eq_getElem?_getD, List.getElem?_eq_getElem hlt]; rfl⟩
      obtain ⟨x, hx⟩ : ∃ x, L.getD j [] = x := ⟨_, rfl⟩
      rw [hx] at ga hlex hkx' hx24 htk
      have hpl : Aside0 (ps.length = j * R.length) := ⟨by
        have e := congrArg List.length hps.out
        rw [List.length_map] at e
        rw [e, List.length_flatMap]
        have : ((L.take j).map fun x => (R.map fun y => maxL x y).length) = List.replicate j R.length := by
          apply List.ext_getElem
          · simp; omega
          · intro i h1 h2; simp
        rw [this]; simp⟩
      have hmul : Aside0 (j * R.length + R.length ≤ 1000000) := ⟨by
        have h1 := hLR.out
        have h2 : (j + 1) * R.length ≤ L.length * R.length := Nat.mul_le_mul_right _ hlt
        rw [Nat.add_mul, Nat.one_mul] at h2
        omega⟩
      have hkx'' := Aside0.mk hkx'
      have hlt2 := Aside0.mk hlt
      clear hx hmem hkx'
      obtain ⟨wo, hwo⟩ : ∃ wo, wo = wr := ⟨_, rfl⟩
      subst hwo
      go_wp2
      go_loopg [5, 22] R.length (fun ky v i wr => ∃ (q : Nat) (qs : List (Value × List Int)), i = .int .i64 q ∧ q ≤ R.length ∧ R.length - q ≤ ky ∧ Aside0 (Below w2.heap.size w2 wr) ∧ Aside0 (OutR wr w2.heap.size v qs) ∧ Aside0 (qs.map (·.2) = ps.map (·.2) ++ (R.take q).map fun y => maxL x y) ∧ Aside0 (qs.length = ps.length + q))
      case atStart => exact ⟨0, ps, rfl, Nat.zero_le _, by omega, hB, hO, ⟨by simp⟩, ⟨rfl⟩⟩
      case round =>
        clear hO hB
        obtain ⟨q, qs, rfl, hq, hky, hB, hO, hqs, hql⟩ := hrel
        have hsz := hB.out.size
        by_cases hqlt : q < R.length
        · obtain ⟨ad2, Ay, cy, hA, gb, hley, hky'⟩ := rowsM_at (Kd.C_below hC1b.out hB.out) q hqlt
          subst hA
          have htk2 : Aside0 (R.take (q + 1) = R.take q ++ [R.getD q []]) := ⟨by rw [List.take_succ_eq_append_getElem hqlt, List.getD_eq_getElem?_getD, List.getElem?_eq_getElem hqlt]; rfl⟩
          obtain ⟨y, hy⟩ : ∃ y, R.getD q [] = y := ⟨_, rfl⟩
          rw [hy] at gb hley hky' htk2
          have hcall := marking_Max.calls _ Ax cx x Ay cy y _ wr (Kd.C_below hkx''.out hB.out) hlex hky' hley (max_at x y (by omega))
          obtain ⟨z, hz⟩ : ∃ z, maxL x y = z := ⟨_, rfl⟩
          rw [hz] at hcall
          replace hcall := Aside0.mk hcall
          have hqs2 : Aside0 (qs.map (·.2) ++ [z] = ps.map (·.2) ++ (R.take (q + 1)).map fun y => maxL x y) := ⟨by rw [hqs.out, htk2.out, List.map_append, List.map_singleton, hz, List.append_assoc]⟩
          have hql3 : Aside0 (qs.length ≤ 1000000) := ⟨by rw [hql.out, hpl.out]; have := hmul.out; omega⟩
          have hqlt2 := Aside0.mk hqlt
          clear hky' hz
          obtain ⟨i0, hi0, hz0, hzs, hzb⟩ := info_parts infoR
          go_wp2_with fail
          refine hcall.out.mono ?_
          rintro e w3 ⟨vz, rfl, hRz, hb3⟩
          obtain ⟨Az, cz, hvz, hcz, hCz⟩ := Kd.R_reads hRz
          subst hvz
          have hO3 := hO.out.below hb3
          have hB3 := hB.out.trans (hb3.mono hB.out.size)
          have hRz2 := Kd.R_lower hRz hB.out.size
          have hsz3 := hB3.size
          have hown3 := hO3.own
          replace hown3 := Aside0.mk hown3
          replace hRz2 := Aside0.mk hRz2
          replace hO3 := Aside0.mk hO3
          replace hB3 := Aside0.mk hB3
          clear hRz hCz hb3 hcall hO hB hkx''
          go_wp2_with (at_builtin; refine print_append_cells (w0 := w2) w2.heap.size rfl (.tmp 26) (.tmp 30) 22 28 (.slice none 0 0) 1 24 rfl Try.underlying22 infoR rfl (by decide) (by decide) u5 qs.length (qs.map (·.1)) [.slice Az z.length cz] rfl rfl rfl (by simp [Value.oneCell']) hown3.out hB3.out hsz3 (by have := hql3.out; omega) ?_; intro v4 w4 ho4 hb4 hg4 _; have hO4 := Aside0.mk (hO3.out.snoc hRz2.out hg4 ho4); replace hb4 := Aside0.mk hb4; clear ho4 hg4)
          go_roundg (R.length - (q + 1))
          case measure => omega
          case rel => exact ⟨q + 1, qs ++ [(.slice Az z.length cz, z)], by go_num, hqlt2.out, Nat.le_refl _, hb4, hO4, ⟨by rw [List.map_append]; exact hqs2.out⟩, ⟨by rw [List.length_append, hql.out]; simp; omega⟩⟩
        · obtain rfl : q = R.length := by omega
          go_wp2
          go_roundg (L.length - (j + 1))
          case measure => omega
          case rel => exact ⟨j + 1, qs, by go_num, hlt2.out, Nat.le_refl _, hB, hO, ⟨by rw [htk.out, hqs.out, hps.out, List.flatMap_append, List.take_length]; simp⟩⟩
    · obtain rfl : j = L.length := by omega
      rw [List.take_length] at hps
      have hpl2 : ps.length ≤ 1000000 := by
        have e := congrArg List.length hps.out
        rw [List.length_map] at e
        have h1 := hLR.out
        rw [e, List.length_flatMap]
        have : (L.map fun x => (R.map fun y => maxL x y).length) = List.replicate L.length R.length := by
          apply List.ext_getElem
          · simp
          · intro i h1 h2; simp
        rw [this]; simpa using h1
      obtain ⟨Ao, co, hvo, hco, hCo⟩ := hO.out.C hpl2
      subst hvo
      rw [hps.out] at hCo hco ⊢
      obtain ⟨F, hF⟩ : ∃ F, (L.flatMap fun x => R.map fun y => maxL x y) = F := ⟨_, rfl⟩
      rw [hF] at hCo hco ⊢
      have hokF : F.length ≤ 1000000 ∧ ∀ m ∈ F, m.length ≤ 1000000 := by
        refine ⟨?_, fun m hm => ?_⟩
        · have e := congrArg List.length hps.out
          rw [List.length_map, hF] at e
          omega
        · rw [← hF, List.mem_flatMap] at hm
          obtain ⟨x, hx, hm⟩ := hm
          obtain ⟨y, hy, rfl⟩ := List.mem_map.1 hm
          have h1 := maxL_len x y
          have h2 := hLx.out x hx
          omega
      have hmkf := Aside0.mk (make_calls wr Ao co F hCo hco hokF.1 hokF.2)
      have hb0r := Aside0.mk (hb02.out.trans (hB.out.mono hb02.out.size))
      replace hF := Aside0.mk hF
      clear hCo hO hps hokF
      go_wp2_with fail
      refine hmkf.out.mono ?_
      rintro e w5 ⟨v5, rfl, hS5, hb5⟩
      have hS6 := Aside0.mk (Kd.S_lower hS5 hb0r.out.size)
      have hb05 := Aside0.mk (hb0r.out.trans (hb5.mono hb0r.out.size))
      clear hS5 hb5 hmkf
      go_wp2
      go_ret
      exact ⟨v5, rfl, by first | exact hS6.out | (rw [hF.out]; exact hS6.out), hb05.out⟩
def upset_Meet.f (l0 : List (List Int)) (l1 : List (List Int)) : Option ((List (List Int))) := if okIn l0 ∧ okIn l1 ∧ l0.length * l1.length ≤ 1000000 then some (meetL l0 l1) else none
theorem upset_Meet.calls (A0 : Option Addr) (c0 : Nat) (l0 : List (List Int)) (A1 : Option Addr) (c1 : Nat) (l1 : List (List Int)) (r : List (List Int)) (w : World) (hr0 : Kd.C (Kd.slice 3 (Kd.int .i64)) w A0 l0.length l0) (hc0 : l0.length ≤ c0) (hr1 : Kd.C (Kd.slice 3 (Kd.int .i64)) w A1 l1.length l1) (hc1 : l1.length ≤ c1) (h : upset_Meet.f l0 l1 = some r) :
    Calls Try.prog 21 #[.slice A0 l0.length c0, .slice A1 l1.length c1] w fun e w' => ∃ v0_ : Value, e = .returned (v0_) ∧ Kd.S (Kd.slice 3 (Kd.int .i64)) 28 w' w.heap.size (fun _ => True) v0_ r ∧ Below w.heap.size w w' := by
  unfold upset_Meet.f at h
  split at h
  · rename_i hok
    injection h with h
    subst h
    exact meet_calls w A0 c0 l0 A1 c1 l1 hr0 hc0 hr1 hc1 hok.1 hok.2.1 hok.2.2
  · cases h

end Go.Proofs.Ytliagbliaiigaaa.Hy
