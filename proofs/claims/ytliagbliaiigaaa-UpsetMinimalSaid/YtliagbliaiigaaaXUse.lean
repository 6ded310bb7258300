/- By hand (under, up_use, up_mkplain): a part of this seat's proofs. -/
import Derived.Test.YtliagbliaiigaaaXIns
import Derived.Test.YtliagbliaiigaaaXPlain
namespace Go.Proofs.Ytliagbliaiigaaa.Hy
open Go.RowKit Go.Shelf Go.Proofs.YtliagbliaiigaaaW.PrintWords Go.Proofs.YtliagbliaiigaaaW.PrintLast Go.Proofs.YtliagbliaiigaaaW.PrintMore
set_option linter.unusedVariables false
set_option linter.unusedSimpArgs false
attribute [local go_sem] Oper.semAt_some
/-! ### rows that lead to what came in -/
/-- a kind whose elements are read in every world that S holds of -/
def under {α : Type} (S : World → Prop) (d : Kd α) : Kd α where
  sz := d.sz
  E := []
  K := fun _ x cs => cs.length = d.sz ∧ (∀ u ∈ cs, u.oneCell' = true) ∧ ∀ W, S W → d.K W x cs
  M := fun _ _ _ x cs => cs.length = d.sz ∧ (∀ u ∈ cs, u.oneCell' = true) ∧ ∀ W, S W → d.K W x cs
  K_len := fun h => h.1
  K_one := fun h => h.2.1
  K_below := fun _ h => h
  K_of_M := fun h => h
  M_mono := fun _ h => h
  M_bound := fun h => h
  M_move := fun _ h => h
  M_lower := fun _ h => h
theorem under_C {α : Type} {S : World → Prop} {W : World} {d : Kd α} {A : Option Addr} {n : Nat} {xs : List α} (h : (under S d).C W A n xs) (hs : S W) : d.C W A n xs :=
  ReadsRow.imp_ (R := (under S d).K W) h (Below.refl _ _) (fun _ _ hp => hp.2.2 W hs)
theorem under_of {α : Type} {w W : World} {d : Kd α} {A : Option Addr} {n : Nat} {xs : List α} (h : d.C w A n xs) (hb : Below w.heap.size w W) : (under (fun W => Below w.heap.size w W) d).C W A n xs :=
  Kd.C_below (ReadsRow.imp_ (R := d.K w) (R' := (under (fun W => Below w.heap.size w W) d).K w) h (Below.refl _ _) (fun _ _ hp => ⟨d.K_len hp, d.K_one hp, fun _ hb => d.K_below hb hp⟩)) hb
theorem under_imp {α : Type} {S S' : World → Prop} {W : World} {d : Kd α} {e base : Nat} {ok : Nat → Prop} {v : Value} {xs : List α} (h : (under S d).R e W base ok v xs) (hs : ∀ W, S' W → S W) : (under S' d).R e W base ok v xs :=
  ⟨h.1, OwnRow.imp_ (R := (under S d).M W base _) (R' := (under S' d).M W base _) h.2 (fun _ _ hp => ⟨hp.1, hp.2.1, fun W hw => hp.2.2 W (hs W hw)⟩)⟩
def S0 (w W : World) : Prop := Below w.heap.size w W

/-! ### upset.usable -/
abbrev kM : Kd (List Int) := Kd.slice 3 (Kd.int .i64)
/-- the values in a row's cells -/
def valsOf (w : World) (A : Option Addr) (n : Nat) : List Value := (List.range n).map fun i => match A with | some ad => (w.cell? (ad.add i)).getD nilV | none => nilV
theorem valsOf_len (w : World) (A : Option Addr) (n : Nat) : (valsOf w A n).length = n := by simp [valsOf]
theorem rowsM_at {W : World} {A : Option Addr} {n : Nat} {xs : List (List Int)} (h : kM.C W A n xs) (i : Nat) (hi : i < n) :
    ∃ ad Ai ci, A = some ad ∧ W.cell? (ad.add i) = some (.slice Ai (xs.getD i []).length ci) ∧ (xs.getD i []).length ≤ ci ∧ (Kd.int .i64).C W Ai (xs.getD i []).length (xs.getD i []) := by
  obtain ⟨ad, c, e, hl, ⟨Ai, ci, rfl, hle, hk⟩, hc⟩ := ReadsRow.get_ h ([] : List Int) (i : Int) (by omega) (by omega)
  have := hc 0 _ rfl
  simp only [Int.toNat_natCast] at this hk hle
  exact ⟨ad, Ai, ci, e, by simpa [Kd.slice] using this, hle, hk⟩
theorem valsOf_at {w : World} {A : Option Addr} {n : Nat} {xs : List (List Int)} (h : kM.C w A n xs) (i : Nat) (hi : i < n) :
    ∃ Ai ci, (valsOf w A n).getD i nilV = .slice Ai (xs.getD i []).length ci ∧ (xs.getD i []).length ≤ ci ∧ (Kd.int .i64).C w Ai (xs.getD i []).length (xs.getD i []) := by
  obtain ⟨ad, Ai, ci, rfl, hc, hle, hk⟩ := rowsM_at h i hi
  refine ⟨Ai, ci, ?_, hle, hk⟩
  simp [valsOf, List.getD_eq_getElem?_getD, hi, hc]
theorem valsOf_vals {w : World} {A : Option Addr} {n : Nat} {xs : List (List Int)} (h : kM.C w A n xs) : Vals w A (valsOf w A n) := by
  intro i hi
  rw [valsOf_len] at hi
  obtain ⟨ad, Ai, ci, rfl, hc, _, _⟩ := rowsM_at h i hi
  obtain ⟨Aj, cj, hv, _⟩ := valsOf_at h i hi
  refine ⟨ad, rfl, ?_⟩
  rw [show (Value.slice none 0 0) = nilV from rfl]
  simp [valsOf, List.getD_eq_getElem?_getD, hi, hc]
def goodB (m : List Int) : Bool := decide (1 ≤ m.length) && (decide (m.length ≤ 24) && vldL m)
def useL (l : List (List Int)) : List (List Int) := match l.find? goodB with | none => [] | some m0 => l.filter fun m => decide ((m.length : Int) = (m0.length : Int)) && vldL m
set_option maxRecDepth 100000 in
set_option maxHeartbeats 4000000 in
theorem usable1_calls (w : World) (A : Option Addr) (c : Nat) (m : List Int) (hr : (Kd.int .i64).C w A m.length m) (hc : m.length ≤ c) (hl : m.length ≤ 1000000) :
    Calls Try.prog 53 #[.slice A m.length c] w fun e w' => e = .returned (.bool (goodB m)) ∧ Below w.heap.size w w' := by
  have hg := Aside0.mk (upset_good.calls (m.length + 1) A c m (vldL m) w hr hc (good_at m hl))
  by_cases h1 : 1 ≤ m.length
  · have d1 : decide (1 ≤ m.length) = true := by simp [h1]
    by_cases h2 : m.length ≤ 24
    · have d2 : decide (m.length ≤ 24) = true := by simp [h2]
      have e : goodB m = vldL m := by unfold goodB; rw [d1, d2]; rfl
      rw [e]
      replace e := Aside0.mk e
      obtain ⟨b, hb⟩ : ∃ b, vldL m = b := ⟨_, rfl⟩
      rw [hb] at hg ⊢
      clear hb hr
      go_enter Try.func53, Try.ntmps53
      go_wp2_with (go_at_call 46; refine hg.out.mono ?_; rintro e w' ⟨rfl, hd⟩; have hbel := Aside0.mk hd.below)
      go_ret
      exact ⟨rfl, hbel.out⟩
    · have d2 : decide (m.length ≤ 24) = false := by simp [h2]
      have e : goodB m = false := by unfold goodB; rw [d1, d2]; rfl
      rw [e]
      clear hr hg
      go_enter Try.func53, Try.ntmps53
      go_wp2
      go_ret
      exact ⟨rfl, Below.refl _ _⟩
  · have d1 : decide (1 ≤ m.length) = false := by simp [h1]
    have e : goodB m = false := by unfold goodB; rw [d1]; rfl
    rw [e]
    clear hr hg
    go_enter Try.func53, Try.ntmps53
    go_wp2
    go_ret
    exact ⟨rfl, Below.refl _ _⟩
theorem map_getD (l : List (List Int)) : (List.range l.length).map (fun i => l.getD i []) = l := by
  apply List.ext_getElem
  · simp
  · intro i h1 h2
    simp [List.getD_eq_getElem?_getD, List.getElem?_eq_getElem h2]
theorem find_range (l : List (List Int)) (q : List Int → Bool) : l.find? q = ((List.range l.length).find? fun i => q (l.getD i [])).map fun i => l.getD i [] := by
  have e := List.find?_map (f := fun i => l.getD i []) (p := q) (l := List.range l.length)
  rw [map_getD] at e
  exact e
def UsePost (w : World) (l : List (List Int)) (e : Ending) (w' : World) : Prop :=
  ∃ v, e = .returned v ∧ (under (S0 w) kM).R 28 w' w.heap.size (fun _ => True) v (useL l) ∧ Below w.heap.size w w'
set_option maxRecDepth 100000 in
set_option maxHeartbeats 8000000 in
theorem usable_calls (w : World) (A : Option Addr) (c : Nat) (l : List (List Int)) (hr : kM.C w A l.length l) (hc : l.length ≤ c) (hl : l.length ≤ 1000000) (hm : ∀ m ∈ l, m.length ≤ 1000000) :
    Calls Try.prog 31 #[.slice A l.length c] w (UsePost w l) := by
  have hv := valsOf_vals hr
  have hvl := valsOf_len w A l.length
  have hmi : ∀ i, i < l.length → (l.getD i []).length ≤ 1000000 := fun i hi => hm _ (by rw [List.getD_eq_getElem?_getD, List.getElem?_eq_getElem hi]; exact List.getElem_mem hi)
  have hans : Answers w 53 #[] #[] (valsOf w A l.length) (fun i => goodB (l.getD i [])) := by
    intro i W hi hb
    rw [hvl] at hi
    obtain ⟨Ai, ci, e, hle, hk⟩ := valsOf_at hr i hi
    rw [show (Value.slice none 0 0) = nilV from rfl, e]
    exact usable1_calls W Ai ci _ (Kd.C_below hk hb) hle (hmi i hi)
  have hidx := indexFunc_in w A c _ 53 #[] #[] _ hv hans (by omega) (enters_of Try.func53 (by kernel_rfl) rfl)
  rw [hvl] at hidx
  replace hidx := Aside0.mk hidx
  have hfr := find_range l goodB
  clear hans hv hvl
  cases hf : (List.range l.length).find? (fun i => goodB (l.getD i [])) with
  | none =>
    have hfp : firstP (fun i => goodB (l.getD i [])) l.length = -1 := by rw [firstP, hf]
    have hu : useL l = [] := by unfold useL; rw [hfr, hf]; rfl
    rw [hfp] at hidx
    replace hu := Aside0.mk hu
    clear hf hfp hfr hr hm hmi
    go_enter Try.func31, Try.ntmps31
    go_wp2_with (go_at_call 52; refine hidx.out.mono ?_; rintro e w1 ⟨rfl, hb1⟩; replace hb1 := Aside0.mk hb1)
    go_ret
    exact ⟨_, rfl, by rw [hu.out]; exact Kd.R_nil _ _ _ _ _, hb1.out⟩
  | some i0 =>
    have hfp : firstP (fun i => goodB (l.getD i [])) l.length = (i0 : Int) := by rw [firstP, hf]
    have hi0 : i0 < l.length := List.mem_range.1 (List.mem_of_find?_eq_some hf)
    have hu : useL l = l.filter (fun m => decide ((m.length : Int) = ((l.getD i0 []).length : Int)) && vldL m) := by unfold useL; rw [hfr, hf]; rfl
    rw [hfp] at hidx
    obtain ⟨n0, hn0⟩ : ∃ n0, (l.getD i0 []).length = n0 := ⟨_, rfl⟩
    rw [hn0] at hu
    obtain ⟨φ, hφ⟩ : ∃ φ : List Int → Bool, (fun m : List Int => decide ((m.length : Int) = (n0 : Int)) && vldL m) = φ := ⟨_, rfl⟩
    rw [hφ] at hu
    have hval : ∀ (W : World) (Ai : Option Addr) (ci : Nat) (m : List Int), (Kd.int .i64).C W Ai m.length m → m.length ≤ ci → m.length ≤ 1000000 → Calls Try.prog 54 #[.slice Ai m.length ci, .int .i64 (n0 : Int)] W fun e w' => e = .returned (.bool (φ m)) ∧ Drawn0 W w' := by
      intro W Ai ci m h1 h2 h3
      rw [← hφ]
      exact marking_Valid.calls _ Ai ci m n0 _ W h1 h2 (valid_at m n0 h3)
    replace hval := Aside0.mk hval
    replace hu := Aside0.mk hu
    replace hn0 := Aside0.mk hn0
    replace hmi := Aside0.mk hmi
    clear hf hfp hfr hm hφ
    go_enter Try.func31, Try.ntmps31
    go_wp2_with (go_at_call 52; refine hidx.out.mono ?_; rintro e w1 ⟨rfl, hb1⟩; replace hb1 := Aside0.mk hb1)
    go_loopw [4, 13] (fun v i wr => ∃ j : Nat, i = .int .i64 j ∧ j ≤ l.length ∧ Aside0 (Below w.heap.size w wr) ∧ Aside0 ((under (S0 w) kM).R 28 wr w.heap.size (fun _ => True) v ((l.take j).filter φ))) (fun _ i _ => l.length - (intOf i).toNat)
    case atStart => exact ⟨0, rfl, Nat.zero_le _, hb1, ⟨Kd.R_nil _ _ _ _ _⟩⟩
    case round =>
      obtain ⟨j, rfl, hj, hB, hR⟩ := hrel
      by_cases hlt : j < l.length
      · obtain ⟨ad, Ai, ci, hA, ga, hle, hk⟩ := rowsM_at (Kd.C_below hr hB.out) j hlt
        subst hA
        obtain ⟨ad2, Aj, cj, hA2, gb, _, _⟩ := rowsM_at (Kd.C_below hr hB.out) i0 hi0
        cases hA2
        have hkw : ∀ okp : Nat → Prop, (under (S0 w) kM).M wr w.heap.size okp (l.getD j []) [.slice Ai (l.getD j []).length ci] := fun okp => by
          obtain ⟨ad3, ce, hA3, hcl, hkk, hcs⟩ := ReadsRow.get_ (under_of hr hB.out) ([] : List Int) (j : Int) (by omega) (by omega)
          cases hA3
          have e : wr.cell? (ad.add j) = some (ce.getD 0 nilV) := by
            have := hcs 0 (ce.getD 0 nilV) (by rw [List.getD_eq_getElem?_getD, List.getElem?_eq_getElem (by rw [hcl]; exact Nat.zero_lt_one)]; rfl)
            simpa [Kd.slice, under] using this
          rw [ga] at e
          injection e with e
          have hce : ce = [.slice Ai (l.getD j []).length ci] := by
            match ce, hcl, e with
            | [u], _, e => simpa using e.symm
          rw [hce, Int.toNat_natCast] at hkk
          exact hkk
        have hml := hmi.out j hlt
        have htk : Aside0 (l.take (j + 1) = l.take j ++ [l.getD j []]) := ⟨by rw [List.take_succ_eq_append_getElem hlt, List.getD_eq_getElem?_getD, List.getElem?_eq_getElem hlt]; rfl⟩
        rw [hn0.out] at gb
        obtain ⟨m, hm⟩ : ∃ m, l.getD j [] = m := ⟨_, rfl⟩
        rw [hm] at ga hle hk hkw hml htk
        have hcall := hval.out wr Ai ci m hk hle hml
        obtain ⟨b, hb⟩ : ∃ b, φ m = b := ⟨_, rfl⟩
        rw [hb] at hcall
        replace hcall := Aside0.mk hcall
        replace hb := Aside0.mk hb
        replace hkw := Aside0.mk hkw
        have hfl : Aside0 (((l.take j).filter φ).length ≤ 1000000) := ⟨Nat.le_trans (List.length_filter_le _ _) (by rw [List.length_take]; omega)⟩
        have hsz := hB.out.size
        clear hm hk
        cases b with
        | false =>
          go_wp2_with (go_at_call 54; refine hcall.out.mono ?_; rintro e w' ⟨rfl, hd⟩; have hB2 := Aside0.mk (hB.out.trans (hd.below.mono hB.out.size)); have hR2 := Aside0.mk (Kd.R_below hR.out hd.below); clear hd)
          go_roundw
          case rel => exact ⟨j + 1, by go_num, hlt, hB2, ⟨by rw [htk.out, List.filter_append, List.filter_cons, hb.out]; simpa using hR2.out⟩⟩
          case measure => simp [intOf]; omega
        | true =>
          go_wp2_with (first | (go_at_call 54; refine hcall.out.mono ?_; rintro e w' ⟨rfl, hd⟩; have hB2 := Aside0.mk (hB.out.trans (hd.below.mono hB.out.size)); have hR2 := Aside0.mk (Kd.R_below hR.out hd.below); have hsz2 := hB2.out.size; clear hd) | (at_builtin; refine Kd.R_append (under (S0 w) kM) (w0 := w) w.heap.size rfl (.tmp 24) (.tmp 26) 22 28 (.slice none 0 0) 24 rfl Try.underlying22 infoR rfl (Nat.zero_lt_one) (by decide) u4 ((l.take j).filter φ) m [.slice Ai m.length ci] (fun _ => True) (fun _ => False) rfl rfl (hkw.out (fun _ => False)) (fun _ h => h.elim) (fun _ _ => trivial) hR2.out hB2.out (by omega) (by have := hfl.out; omega) ?_; intro v1 w2 hR3 hB3 _ _; replace hR3 := Aside0.mk hR3; replace hB3 := Aside0.mk hB3))
          go_roundw
          case rel => exact ⟨j + 1, by go_num, hlt, hB3, ⟨by rw [htk.out, List.filter_append, List.filter_cons, hb.out]; simpa using hR3.out⟩⟩
          case measure => simp [intOf]; omega
      · obtain rfl : j = l.length := by omega
        go_wp2
        go_ret
        exact ⟨_, rfl, by rw [hu.out]; have := hR.out; rwa [List.take_of_length_le (Nat.le_refl _)] at this, hB.out⟩

/-! ### upset.Make, plainly -/
theorem cmpL_refl : ∀ a, cmpL a a = 0
  | [] => rfl
  | a :: x => by rw [cmpL, if_neg (Int.lt_irrefl _), if_neg (Int.lt_irrefl _), cmpL_refl x]
theorem cmpL_zero : ∀ {a b : List Int}, cmpL a b = 0 → a = b
  | [], [], _ => rfl
  | [], _ :: _, h => by simp [cmpL] at h
  | _ :: _, [], h => by simp [cmpL] at h
  | a :: x, b :: y, h => by
    rw [cmpL] at h
    split at h
    · cases h
    · split at h
      · cases h
      · rw [show a = b by omega, cmpL_zero h]
theorem cmpL_flip : ∀ a b : List Int, cmpL a b < 0 ↔ 0 < cmpL b a
  | [], [] => by simp [cmpL]
  | [], _ :: _ => by simp [cmpL]
  | _ :: _, [] => by simp [cmpL]
  | a :: x, b :: y => by
    rw [cmpL, cmpL]
    by_cases h : a < b
    · rw [if_pos h, if_neg (by omega), if_pos h]; simp
    · rw [if_neg h]
      by_cases h2 : b < a
      · rw [if_pos h2, if_pos h2]; simp
      · rw [if_neg h2, if_neg h2, if_neg h]; exact cmpL_flip x y
theorem cmpL_trans : ∀ {a b c : List Int}, cmpL a b < 0 → cmpL b c < 0 → cmpL a c < 0
  | [], [], _, h, _ => by simp [cmpL] at h
  | [], _ :: _, [], _, h => by simp [cmpL] at h
  | [], _ :: _, _ :: _, _, _ => by simp [cmpL]
  | _ :: _, [], _, h, _ => by simp [cmpL] at h
  | _ :: _, _ :: _, [], _, h => by simp [cmpL] at h
  | a :: x, b :: y, c :: z, h1, h2 => by
    rw [cmpL] at h1 h2 ⊢
    by_cases g1 : a < b
    · by_cases g2 : b < c
      · rw [if_pos (by omega)]; decide
      · rw [if_neg g2] at h2
        split at h2
        · simp at h2
        · rw [if_pos (by omega)]; decide
    · rw [if_neg g1] at h1
      split at h1
      · simp at h1
      · by_cases g2 : b < c
        · rw [if_pos (by omega)]; decide
        · rw [if_neg g2] at h2
          split at h2
          · simp at h2
          · rw [if_neg (by omega), if_neg (by omega)]; exact cmpL_trans h1 h2
theorem leqL_refl : ∀ a, leqL a a = true
  | [] => rfl
  | a :: x => by rw [leqL, leqL_refl x]; simp
def ltB (m x : List Int) : Bool := decide (cmpL x m < 0)
def posL (out : List (List Int)) (m : List Int) : Nat := (out.takeWhile (ltB m)).length
def stepL (out : List (List Int)) (m : List Int) : List (List Int) :=
  if out.any (fun x => leqL x m) then out else (out.filter fun x => !leqL m x).take (posL (out.filter fun x => !leqL m x) m) ++ m :: (out.filter fun x => !leqL m x).drop (posL (out.filter fun x => !leqL m x) m)
def makeL (l : List (List Int)) : List (List Int) := (useL l).foldl stepL []
def Sorted (l : List (List Int)) : Prop := l.Pairwise (fun x y => cmpL x y < 0)
theorem posL_le (out : List (List Int)) (m : List Int) : posL out m ≤ out.length := (List.takeWhile_sublist _).length_le
/-- the place that a search finds is posL -/
theorem posL_eq {out : List (List Int)} {m : List Int} {k : Nat} (hk : k ≤ out.length) (h1 : ∀ i, i < k → cmpL (out.getD i []) m < 0) (h2 : ∀ i, k ≤ i → i < out.length → 0 ≤ cmpL (out.getD i []) m) : posL out m = k := by
  induction out generalizing k with
  | nil => simp at hk; subst hk; rfl
  | cons x r ih =>
    cases k with
    | zero =>
      have := h2 0 (Nat.le_refl _) (by simp)
      simp only [List.getD_cons_zero] at this
      unfold posL
      rw [List.takeWhile_cons, if_neg (by simp [ltB]; omega)]; rfl
    | succ k =>
      have := h1 0 (by omega)
      simp only [List.getD_cons_zero] at this
      have e := ih (k := k) (by simpa using hk) (fun i hi => by simpa using h1 (i + 1) (by omega)) (fun i hi hl => by simpa using h2 (i + 1) (by omega) (by simpa using hl))
      unfold posL at e ⊢
      rw [List.takeWhile_cons, if_pos (by simp [ltB]; exact this), List.length_cons, e]
theorem sorted_mono {out : List (List Int)} (hs : Sorted out) (m : List Int) : ∀ i j, i ≤ j → j < out.length → cmpL (out.getD j []) m < 0 → cmpL (out.getD i []) m < 0 := by
  intro i j hij hj h
  rcases Nat.lt_or_eq_of_le hij with h1 | rfl
  · have := (List.pairwise_iff_getElem.1 hs) i j (by omega) hj h1
    rw [List.getD_eq_getElem?_getD, List.getElem?_eq_getElem hj] at h
    rw [List.getD_eq_getElem?_getD, List.getElem?_eq_getElem (show i < out.length by omega)]
    exact cmpL_trans this h
  · exact h
theorem tw_all (p : List Int → Bool) : ∀ (l : List (List Int)) (x : List Int), x ∈ l.takeWhile p → p x = true
  | [], _, h => by cases h
  | y :: r, x, h => by
    rw [List.takeWhile_cons] at h
    split at h
    · rename_i hy
      rcases List.mem_cons.1 h with rfl | h
      · exact hy
      · exact tw_all p r x h
    · cases h
theorem tw_drop (p : List Int → Bool) : ∀ (l : List (List Int)), l.drop (l.takeWhile p).length = l.dropWhile p
  | [] => rfl
  | y :: r => by
    rw [List.takeWhile_cons, List.dropWhile_cons]
    split
    · rw [List.length_cons, List.drop_succ_cons, tw_drop p r]
    · rfl
theorem sorted_step {out : List (List Int)} (hs : Sorted out) (m : List Int) : Sorted (stepL out m) := by
  unfold stepL
  split
  · exact hs
  · rename_i hany
    have hne : ∀ x ∈ out, x ≠ m := fun x hx e => hany (List.any_eq_true.2 ⟨x, hx, by rw [e]; exact leqL_refl m⟩)
    generalize ho : (out.filter fun x => !leqL m x) = o
    have hso : Sorted o := by rw [← ho]; exact hs.filter _
    have hno : ∀ x ∈ o, x ≠ m := fun x hx => hne x (by rw [← ho] at hx; exact (List.mem_filter.1 hx).1)
    have hle := posL_le o m
    have htw : o.take (posL o m) = o.takeWhile (ltB m) := by
      unfold posL
      exact ((List.prefix_iff_eq_take.1 (List.takeWhile_prefix _))).symm
    have hlow : ∀ x ∈ o.take (posL o m), cmpL x m < 0 := fun x hx => by
      rw [htw] at hx
      have := tw_all (ltB m) o x hx
      simpa [ltB] using this
    have hdw : o.drop (posL o m) = o.dropWhile (ltB m) := by
      exact tw_drop (ltB m) o
    have hhigh : ∀ x ∈ o.drop (posL o m), cmpL m x < 0 := by
      intro x hx
      have hxo : x ∈ o := List.mem_of_mem_drop hx
      rw [cmpL_flip]
      have h0 : ¬ cmpL x m < 0 := by
        intro hlt
        rw [hdw] at hx
        cases hd : o.dropWhile (ltB m) with
        | nil => rw [hd] at hx; cases hx
        | cons y r =>
          have hy : ¬ cmpL y m < 0 := by
            have := List.head_dropWhile_not (ltB m) (l := o) (by rw [hd]; simp)
            simp only [hd, List.head_cons] at this
            simpa [ltB] using this
          rw [hd] at hx
          rcases List.mem_cons.1 hx with rfl | hx
          · exact hy hlt
          · have hsd : (y :: r).Pairwise (fun x y => cmpL x y < 0) := by rw [← hd]; exact hso.sublist (List.dropWhile_sublist _)
            exact hy (cmpL_trans ((List.pairwise_cons.1 hsd).1 x hx) hlt)
      have h1 : cmpL x m ≠ 0 := fun e => hno x hxo (cmpL_zero e)
      omega
    refine List.pairwise_append.2 ⟨hso.sublist (List.take_sublist _ _), List.pairwise_cons.2 ⟨hhigh, hso.sublist (List.drop_sublist _ _)⟩, ?_⟩
    intro x hx y hy
    rcases List.mem_cons.1 hy with rfl | hy
    · exact hlow x hx
    · exact cmpL_trans (hlow x hx) (hhigh y hy)
theorem stepL_mem {out : List (List Int)} {m x : List Int} (h : x ∈ stepL out m) : x ∈ out ∨ x = m := by
  unfold stepL at h
  split at h
  · exact .inl h
  · rcases List.mem_append.1 h with h | h
    · exact .inl (List.mem_filter.1 (List.mem_of_mem_take h)).1
    · rcases List.mem_cons.1 h with h | h
      · exact .inr h
      · exact .inl (List.mem_filter.1 (List.mem_of_mem_drop h)).1
theorem stepL_len (out : List (List Int)) (m : List Int) : (stepL out m).length ≤ out.length + 1 := by
  unfold stepL
  split
  · omega
  · have := List.length_filter_le (fun x => !leqL m x) out
    have h2 := posL_le (out.filter fun x => !leqL m x) m
    simp only [List.length_append, List.length_cons, List.length_take, List.length_drop]
    omega
theorem fold_sorted : ∀ (us out : List (List Int)), Sorted out → Sorted (us.foldl stepL out)
  | [], _, h => h
  | m :: r, out, h => fold_sorted r _ (sorted_step h m)
theorem fold_len : ∀ (us out : List (List Int)), (us.foldl stepL out).length ≤ out.length + us.length
  | [], _ => by simp
  | m :: r, out => by
    have h1 := fold_len r (stepL out m)
    have h2 := stepL_len out m
    simp only [List.foldl_cons, List.length_cons]; omega
theorem fold_mem : ∀ (us out : List (List Int)) (x : List Int), x ∈ us.foldl stepL out → x ∈ out ∨ x ∈ us
  | [], _, _, h => .inl h
  | m :: r, out, x, h => by
    rcases fold_mem r _ x h with h | h
    · rcases stepL_mem h with h | h
      · exact .inl h
      · exact .inr (by rw [h]; exact List.mem_cons_self)
    · exact .inr (List.mem_cons_of_mem _ h)
theorem useL_len (l : List (List Int)) : (useL l).length ≤ l.length := by
  unfold useL
  split
  · simp
  · exact List.length_filter_le _ _
/-- what is used: markings of one length, 1 to 24 -/
theorem useL_mem {l : List (List Int)} {m : List Int} (h : m ∈ useL l) : m ∈ l ∧ 1 ≤ m.length ∧ m.length ≤ 24 ∧ vldL m = true := by
  unfold useL at h
  split at h
  · cases h
  · rename_i m0 hf
    have hg := List.find?_some hf
    simp only [goodB, Bool.and_eq_true, decide_eq_true_eq] at hg
    rw [List.mem_filter] at h
    simp only [Bool.and_eq_true, decide_eq_true_eq] at h
    exact ⟨h.1, by omega, by omega, h.2.2⟩

end Go.Proofs.Ytliagbliaiigaaa.Hy
