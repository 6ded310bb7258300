/- By hand (up_std, up_del): a part of this seat's proofs. -/
import Derived.Test.YtliagbliaiigaaaXBase
import Derived.Lib.SliceRun
import Derived.Test.YtliagbliaiigaaaH0
import Derived.Test.YtliagbliaiigaaaH1
import Derived.Test.YtliagbliaiigaaaH2
import Derived.Test.YtliagbliaiigaaaH3
namespace Go.Proofs.Ytliagbliaiigaaa.Hy
open Go.RowKit Go.Shelf Go.Proofs.YtliagbliaiigaaaW.PrintWords Go.Proofs.YtliagbliaiigaaaW.PrintLast Go.Proofs.YtliagbliaiigaaaW.PrintMore
set_option linter.unusedVariables false
set_option linter.unusedSimpArgs false
attribute [local go_sem] Oper.semAt_some
/-! ### slices.IndexFunc and its like, at rows of slices -/
/-- the first place at which p holds, or -1 -/
def firstP (p : Nat → Bool) (n : Nat) : Int := match (List.range n).find? p with | some i => (i : Int) | none => -1
theorem firstP_hit {p : Nat → Bool} {n j : Nat} (hj : j < n) (hno : ∀ i, i < j → p i = false) (h : p j = true) : firstP p n = (j : Int) := by
  have : (List.range n).find? p = some j := by
    rw [List.find?_range_eq_some]
    exact ⟨h, List.mem_range.2 hj, fun i hi => by simp [hno i hi]⟩
  rw [firstP, this]
theorem firstP_none {p : Nat → Bool} {n : Nat} (hno : ∀ i, i < n → p i = false) : firstP p n = -1 := by
  have : (List.range n).find? p = none := by
    rw [List.find?_eq_none]
    intro i hi
    simp [hno i (List.mem_range.1 hi)]
  rw [firstP, this]
/-- a closure that answers p i at the i-th value, in every world that holds the elder one -/
def Answers (w : World) (g : Nat) (pre lb : Array Value) (vals : List Value) (p : Nat → Bool) : Prop :=
  ∀ (i : Nat) (W : World), i < vals.length → Below w.heap.size w W → Calls Try.prog g (pre ++ #[vals.getD i (.slice none 0 0)] ++ lb) W fun e w' => e = .returned (.bool (p i)) ∧ Below W.heap.size W w'
/-- the values that a slice's cells hold -/
def Vals (w : World) (A : Option Addr) (vals : List Value) : Prop := ∀ i, i < vals.length → ∃ ad, A = some ad ∧ w.cell? (ad.add i) = some (vals.getD i (.slice none 0 0))
set_option maxRecDepth 100000 in
set_option maxHeartbeats 4000000 in
theorem indexFunc_in (w : World) (A : Option Addr) (c : Nat) (vals : List Value) (g : Nat) (pre lb : Array Value) (p : Nat → Bool) (hv : Vals w A vals) (hp : Answers w g pre lb vals p) (hl : vals.length ≤ 1000000)
    (eg : ∀ args w, (callFunc g args).run Try.prog w = .ok (.enter g args) w) :
    Calls Try.prog 52 #[.slice A vals.length c, .func (.func g) pre lb] w fun e w' => e = .returned (.int .i64 (firstP p vals.length)) ∧ Below w.heap.size w w' := by
  go_enter Try.func52, Try.ntmps52
  go_wp2
  go_loopw [8] (fun v wr => ∃ (j : Nat), v = .int .i64 j ∧ j ≤ vals.length ∧ Aside0 (Below w.heap.size w wr) ∧ Aside0 (∀ i, i < j → p i = false)) (fun v _ => vals.length - (intOf v).toNat)
  case atStart => exact ⟨0, rfl, Nat.zero_le _, ⟨Below.refl _ _⟩, ⟨fun i hi => by omega⟩⟩
  case round =>
    obtain ⟨j, rfl, hj, hB, hno⟩ := hrel
    by_cases hlt : j < vals.length
    · obtain ⟨ad, hA, hc⟩ := hv j hlt
      subst hA
      replace hc := pw_cell_below hB.out hc
      have hcall := Aside0.mk (hp j wr hlt hB.out)
      obtain ⟨x, hx⟩ : ∃ x, vals.getD j (.slice none 0 0) = x := ⟨_, rfl⟩
      rw [hx] at hc hcall
      obtain ⟨b, hb⟩ : ∃ b, p j = b := ⟨_, rfl⟩
      have hbA := Aside0.mk hb
      rw [hb] at hcall
      clear hx hb
      go_wp2
      refine hcall.out.mono ?_
      rintro e w' ⟨rfl, hb'⟩
      have hB2 := Aside0.mk (hB.out.trans (hb'.mono hB.out.size))
      clear hb' hcall
      cases b with
      | true =>
        go_wp2
        go_ret
        exact ⟨by rw [firstP_hit hlt hno.out hbA.out]; rfl, hB2.out⟩
      | false =>
        go_wp2
        go_roundw
        case rel => exact ⟨j + 1, by go_num, by omega, hB2, ⟨fun i hi => by
          rcases Nat.lt_or_ge i j with h | h
          · exact hno.out i h
          · obtain rfl : i = j := by omega
            exact hbA.out⟩⟩
        case measure => simp [intOf]; omega
    · obtain rfl : j = vals.length := by omega
      go_wp2
      go_ret
      exact ⟨by rw [firstP_none hno.out]; rfl, hB.out⟩
theorem firstP_any (p : Nat → Bool) (n : Nat) : decide (0 ≤ firstP p n) = (List.range n).any p := by
  rw [firstP]
  cases h : (List.range n).find? p with
  | some i =>
    have h1 := List.find?_some h
    have h2 := List.mem_of_find?_eq_some h
    rw [show (List.range n).any p = true from List.any_eq_true.2 ⟨i, h2, h1⟩]
    simp
  | none =>
    rw [List.find?_eq_none] at h
    rw [show (List.range n).any p = false from List.any_eq_false.2 h]
    rfl
set_option maxHeartbeats 4000000 in
theorem containsFunc_in (w : World) (A : Option Addr) (c : Nat) (vals : List Value) (g : Nat) (pre lb : Array Value) (p : Nat → Bool) (hv : Vals w A vals) (hp : Answers w g pre lb vals p) (hl : vals.length ≤ 1000000)
    (eg : ∀ args w, (callFunc g args).run Try.prog w = .ok (.enter g args) w) :
    Calls Try.prog 45 #[.slice A vals.length c, .func (.func g) pre lb] w fun e w' => e = .returned (.bool ((List.range vals.length).any p)) ∧ Below w.heap.size w w' := by
  have hcall := Aside0.mk (indexFunc_in w A c vals g pre lb p hv hp hl eg)
  go_enter Try.func45, Try.ntmps45
  go_wp2_with fail
  refine hcall.out.mono ?_
  rintro e w' ⟨rfl, hb⟩
  replace hb := Aside0.mk hb
  clear hcall
  obtain ⟨r, hr⟩ : ∃ r, firstP p vals.length = r := ⟨_, rfl⟩
  have ha := Aside0.mk (firstP_any p vals.length)
  rw [hr] at ha ⊢
  clear hr
  go_wp2
  go_ret
  exact ⟨by rw [← ha.out]; rfl, hb.out⟩

/-! ### slices.DeleteFunc -/
def nilV : Value := .slice none 0 0
def keptV (p : Nat → Bool) (vals : List Value) (j : Nat) : List Value := ((List.range j).filter fun i => !p i).map fun i => vals.getD i nilV
theorem keptV_succ (p : Nat → Bool) (vals : List Value) (j : Nat) : keptV p vals (j + 1) = if p j = true then keptV p vals j else keptV p vals j ++ [vals.getD j nilV] := by
  unfold keptV
  rw [List.range_succ, List.filter_append]
  by_cases h : p j = true <;> simp [h]
theorem keptV_len (p : Nat → Bool) (vals : List Value) (j : Nat) : (keptV p vals j).length ≤ j := by
  unfold keptV
  have := List.length_filter_le (fun i => !p i) (List.range j)
  simp only [List.length_map]
  simpa using this
/-- a closure that answers p i at the i-th value, in every world that differs from w in the block b alone -/
def AnswersOn (w : World) (b g : Nat) (pre lb : Array Value) (vals : List Value) (p : Nat → Bool) : Prop :=
  ∀ (i : Nat) (W : World), i < vals.length → Chg (fun k => k = b) w W → Calls Try.prog g (pre ++ #[vals.getD i nilV] ++ lb) W fun e w' => e = .returned (.bool (p i)) ∧ ∃ q', w' = W.drewN q'
theorem splice_done {K vs tl Z : List Value} {n : Nat} (hn : K.length = n) (hz : Z.length = vs.length - n) (hle : n ≤ vs.length) :
    ((K ++ vs.drop n) ++ tl).toArray.toList.take n ++ Z ++ ((K ++ vs.drop n) ++ tl).toArray.toList.drop (n + Z.length) = K ++ Z ++ tl := by
  rw [List.append_assoc K, List.take_left' hn, hz, show n + (vs.length - n) = (K ++ vs.drop n).length by simp [hn], ← List.append_assoc K, List.drop_left]
theorem Chg.setCells {S : Nat → Prop} {w W : World} {g : Nat} (h : Chg S w W) (hg : S g) (o : Nat) (vs : List Value) : Chg S w (W.setCells g o vs) := by
  induction vs generalizing o W with
  | nil => exact h
  | cons v r ih => exact ih (h.setCell (p := ⟨g, o, none⟩) hg v) (o + 1)
/-- the outer row, j elements looked at -/
def stV (p : Nat → Bool) (vs : List Value) (j : Nat) : List Value := keptV p vs j ++ vs.drop (keptV p vs j).length
theorem stV_len (p : Nat → Bool) (vs : List Value) {j : Nat} (hj : j ≤ vs.length) : (stV p vs j).length = vs.length := by
  have := keptV_len p vs j
  simp [stV]; omega
theorem stV_at (p : Nat → Bool) (vs : List Value) {j : Nat} (hj : j < vs.length) : (stV p vs j)[j]? = some (vs.getD j nilV) := by
  have := keptV_len p vs j
  rw [stV, List.getElem?_append_right this, List.getElem?_drop, show (keptV p vs j).length + (j - (keptV p vs j).length) = j by omega, List.getD_eq_getElem?_getD, List.getElem?_eq_getElem hj]; rfl
theorem stV_keep (p : Nat → Bool) (vs : List Value) {j : Nat} (hj : j < vs.length) (h : p j = false) : (stV p vs j).set (keptV p vs j).length (vs.getD j nilV) = stV p vs (j + 1) := by
  have hl := keptV_len p vs j
  have e : keptV p vs (j + 1) = keptV p vs j ++ [vs.getD j nilV] := by rw [keptV_succ, if_neg (by simp [h])]
  rw [stV, stV, e, List.set_append_right _ _ (Nat.le_refl _), Nat.sub_self, List.drop_eq_getElem_cons (show (keptV p vs j).length < vs.length by omega), List.set_cons_zero]
  simp
theorem stV_skip (p : Nat → Bool) (vs : List Value) {j : Nat} (h : p j = true) : stV p vs (j + 1) = stV p vs j := by
  rw [stV, stV, keptV_succ, if_pos h]
theorem keptV_all {p : Nat → Bool} {vs : List Value} {j : Nat} (hj : j ≤ vs.length) (h : ∀ i, i < j → p i = false) : keptV p vs j = vs.take j := by
  induction j with
  | zero => simp [keptV]
  | succ j ih =>
    rw [keptV_succ, if_neg (by simp [h j (Nat.lt_succ_self j)]), ih (by omega) (fun i hi => h i (by omega)), List.take_succ_eq_append_getElem (by omega), List.getD_eq_getElem?_getD, List.getElem?_eq_getElem (by omega)]; rfl
theorem stV_all {p : Nat → Bool} {vs : List Value} {j : Nat} (hj : j ≤ vs.length) (h : ∀ i, i < j → p i = false) : stV p vs j = vs := by
  rw [stV, keptV_all hj h, List.length_take, Nat.min_eq_left hj, List.take_append_drop]
theorem keptV_lt {p : Nat → Bool} {vs : List Value} {i0 : Nat} (h : p i0 = true) : ∀ j, i0 < j → (keptV p vs j).length < j := by
  intro j
  induction j with
  | zero => intro h; omega
  | succ j ih =>
    intro hj
    rw [keptV_succ]
    have hl := keptV_len p vs j
    by_cases hp : p j = true
    · rw [if_pos hp]; omega
    · rw [if_neg hp]
      have : i0 ≠ j := fun e => hp (e ▸ h)
      have := ih (by omega)
      simp; omega
set_option maxRecDepth 100000 in
set_option maxHeartbeats 8000000 in
theorem deleteFunc_in (w : World) (ob cap : Nat) (vs tl : List Value) (g : Nat) (pre lb : Array Value) (p : Nat → Bool) (hB : w.heap[ob]? = some (.cells (vs ++ tl).toArray 28 (0, 0))) (hp : AnswersOn w ob g pre lb vs p) (hl : vs.length ≤ 1000000) (hcap : vs.length ≤ cap) (hsl : ∀ i, i < vs.length → ∃ A n c, vs.getD i nilV = .slice A n c)
    (eg : ∀ args w, (callFunc g args).run Try.prog w = .ok (.enter g args) w) :
    Calls Try.prog 33 #[.slice (some ⟨ob, 0, none⟩) vs.length cap, .func (.func g) pre lb] w fun e w' =>
      e = .returned (.slice (some ⟨ob, 0, none⟩) (keptV p vs vs.length).length cap) ∧ Chg (fun k => k = ob) w w' ∧ w'.heap[ob]? = some (.cells (keptV p vs vs.length ++ List.replicate (vs.length - (keptV p vs vs.length).length) nilV ++ tl).toArray 28 (0, 0)) := by
  have hv : Vals w (some ⟨ob, 0, none⟩) vs := fun i hi => ⟨_, rfl, by
    have := blk_cell hB i
    rw [add_at, Nat.zero_add, this, List.getElem?_toArray, List.getElem?_append_left hi, List.getD_eq_getElem?_getD, List.getElem?_eq_getElem hi]; rfl⟩
  have hidx := Aside0.mk (indexFunc_in w (some ⟨ob, 0, none⟩) cap vs g pre lb p hv (fun i W hi hb => (hp i W hi (Chg.of_below hb _)).mono (fun e w' ⟨h1, q', h2⟩ => ⟨h1, by rw [h2]; exact pw_below_drewN (Below.refl _ _) _⟩)) hl eg)
  replace hp := Aside0.mk hp
  replace hB := Aside0.mk hB
  replace hsl := Aside0.mk hsl
  clear hv
  obtain ⟨K, hK⟩ : ∃ K, keptV p vs vs.length = K := ⟨_, rfl⟩
  rw [hK]
  replace hK := Aside0.mk hK
  go_enter Try.func33, Try.ntmps33
  go_wp2_with fail
  refine hidx.out.mono ?_
  rintro e w1 ⟨rfl, hb1⟩
  have hlt1 : ob < w.heap.size := blk_lt hB.out
  have hB1 := Aside0.mk ((hb1.block ob hlt1).trans hB.out)
  have hC1 : Aside0 (Chg (fun k => k = ob) w w1) := ⟨Chg.of_below hb1 _⟩
  clear hidx hlt1 hb1
  cases hf : (List.range vs.length).find? p with
  | none =>
    have hno : ∀ i, i < vs.length → p i = false := by
      rw [List.find?_eq_none] at hf
      exact fun i hi => by simpa using hf i (List.mem_range.2 hi)
    rw [firstP_none hno]
    have hk := keptV_all (Nat.le_refl _) hno
    rw [List.take_length, hK.out] at hk
    obtain rfl := hk.symm
    have hfin : Chg (fun k => k = ob) w w1 ∧ w1.heap[ob]? = some (.cells (vs ++ List.replicate (vs.length - vs.length) nilV ++ tl).toArray 28 (0, 0)) := ⟨hC1.out, by simpa using hB1.out⟩
    replace hfin := Aside0.mk hfin
    clear hf hno hp hB hB1 hC1
    go_wp2
    go_ret
    exact ⟨rfl, hfin.out⟩
  | some i0 =>
    have hi0 : i0 < vs.length ∧ p i0 = true ∧ ∀ i, i < i0 → p i = false := by
      rw [List.find?_range_eq_some] at hf
      exact ⟨List.mem_range.1 hf.2.1, hf.1, fun i hi => by simpa using hf.2.2 i hi⟩
    obtain ⟨hi, hpi, hno⟩ := hi0
    rw [firstP_hit hi hno hpi]
    have hk0 : (keptV p vs (i0 + 1)).length = i0 := by rw [keptV_succ, if_pos hpi, keptV_all (by omega) hno, List.length_take]; omega
    have hs0 : stV p vs (i0 + 1) = vs := by rw [stV_skip p vs hpi, stV_all (by omega) hno]
    have hklt := Aside0.mk (keptV_lt (vs := vs) hpi)
    replace hk0 := Aside0.mk hk0
    replace hs0 := Aside0.mk hs0
    clear hf hno hpi
    have hm1 : ((i0 : Int) == (-1 : Int)) = false := beq_eq_false_iff_ne.mpr (by omega)
    go_wp2
    go_loopw [5, 6] (fun vi vj wr => ∃ j : Nat, vj = .int .i64 j ∧ j ≤ vs.length ∧ i0 < j ∧ vi = .int .i64 (keptV p vs j).length ∧ Aside0 (wr.heap[ob]? = some (.cells (stV p vs j ++ tl).toArray 28 (0, 0))) ∧ Aside0 (Chg (fun k => k = ob) w wr)) (fun _ vj _ => vs.length - (intOf vj).toNat)
    case atStart => exact ⟨i0 + 1, by go_num, by omega, by omega, by rw [hk0.out], ⟨by rw [hs0.out]; exact hB1.out⟩, hC1⟩
    case round =>
      clear hk0 hs0 hB hB1 hC1
      obtain ⟨j, rfl, hj, hij, rfl, hBk, hC⟩ := hrel
      by_cases hlt : j < vs.length
      · have hc : wr.cell? ⟨ob, j, none⟩ = some (vs.getD j nilV) := by
          rw [blk_cell hBk.out j, List.getElem?_toArray, List.getElem?_append_left (by rw [stV_len p vs hj]; exact hlt), stV_at p vs hlt]
        have hcall := Aside0.mk (hp.out j wr hlt hC.out)
        have hkeep := Aside0.mk (fun h => stV_keep p vs hlt h)
        have hskip := Aside0.mk (fun h => stV_skip p vs (j := j) h)
        have hks := Aside0.mk (keptV_succ p vs j)
        have hkl := keptV_len p vs j
        have hfz := blk_frozen hBk.out (keptV p vs j).length
        have hset := fun u : Value => blk_set hBk.out (keptV p vs j).length u
        replace hset := Aside0.mk hset
        obtain ⟨xA, xn, xc, hx⟩ := hsl.out j hlt
        rw [hx] at hc hcall hkeep hks
        obtain ⟨m, hm⟩ : ∃ m, (keptV p vs j).length = m := ⟨_, rfl⟩
        rw [hm] at hfz hset hkeep hkl ⊢
        have hmA := Aside0.mk hm
        have hstl := Aside0.mk (stV_len p vs hj)
        obtain ⟨b, hb⟩ : ∃ b, p j = b := ⟨_, rfl⟩
        rw [hb] at hcall hkeep hskip hks
        have hlt2 := Aside0.mk hlt
        clear hx hm hb
        go_wp2
        refine hcall.out.mono ?_
        rintro e w' ⟨rfl, q', rfl⟩
        clear hcall
        cases b with
        | true =>
          have e1 := hks.out
          rw [if_pos rfl] at e1
          have e2 := hskip.out rfl
          have hB2 := Aside0.mk (show (wr.drewN q').heap[ob]? = some (.cells (stV p vs (j + 1) ++ tl).toArray 28 (0, 0)) by rw [e2]; exact hBk.out)
          have hC2 := Aside0.mk (hC.out.drewN q')
          have hl2 := Aside0.mk (show (keptV p vs (j + 1)).length = m by rw [e1]; exact hmA.out)
          clear hks hskip hkeep hset hfz hc e1 e2 hBk hC
          go_wp2
          go_roundw
          case rel => exact ⟨j + 1, by go_num, hlt2.out, by omega, by rw [hl2.out], hB2, hC2⟩
          case measure => have := hlt2.out; simp [intOf]; omega
        | false =>
          have e1 := hks.out
          rw [if_neg (by simp)] at e1
          have e2 := hkeep.out rfl
          have hfz2 : (wr.drewN q').frozen? ⟨ob, m, none⟩ = false := hfz
          have hB2 := Aside0.mk (show ((wr.drewN q').setCell ⟨ob, m, none⟩ (.slice xA xn xc)).heap[ob]? = some (.cells (stV p vs (j + 1) ++ tl).toArray 28 (0, 0)) by
            have h1 := blk_set (show (wr.drewN q').heap[ob]? = some (.cells (stV p vs j ++ tl).toArray 28 (0, 0)) from hBk.out) m (.slice xA xn xc)
            rw [h1, ← e2, List.setIfInBounds_toArray, List.set_append_left _ _ (by rw [hstl.out]; omega)])
          have hC2 := Aside0.mk ((hC.out.drewN q').setCell (p := ⟨ob, m, none⟩) rfl (.slice xA xn xc))
          have hl2 := Aside0.mk (show (keptV p vs (j + 1)).length = m + 1 by rw [e1, List.length_append, hmA.out]; rfl)
          have hold : ∃ old, (wr.drewN q').cell? ⟨ob, m, none⟩ = some old := ⟨_, (blk_cell (show (wr.drewN q').heap[ob]? = some (.cells (stV p vs j ++ tl).toArray 28 (0, 0)) from hBk.out) m).trans (by rw [List.getElem?_toArray, List.getElem?_append_left (by rw [hstl.out]; omega), List.getElem?_eq_getElem (by rw [hstl.out]; omega)])⟩
          obtain ⟨old, hold⟩ := hold
          clear hks hskip hkeep hset hfz hc e1 e2 hBk hC
          go_wp2
          go_roundw
          case rel => exact ⟨j + 1, by go_num, hlt2.out, by omega, by rw [hl2.out]; go_num, hB2, hC2⟩
          case measure => have := hlt2.out; simp [intOf]; omega
      · obtain rfl : j = vs.length := by omega
        have hkl := hklt.out vs.length hi
        have hst : stV p vs vs.length = K ++ vs.drop K.length := by rw [stV, hK.out]
        rw [hK.out] at hkl ⊢
        have hstl := stV_len p vs (Nat.le_refl vs.length)
        have hbk2 := hBk.out
        obtain ⟨n, hn⟩ : ∃ n, K.length = n := ⟨_, rfl⟩
        rw [hn] at hkl ⊢
        have hsz : (stV p vs vs.length ++ tl).toArray.size = vs.length + tl.length := by simp [hstl]
        have hcl : ∀ ty, (Builtin.clear_ #[22] ty #[.slice (some ⟨ob, n, none⟩) (vs.length - n) (cap - n)]).run Try.prog wr = .ok (.tuple #[]) (wr.setCells ob n (List.replicate (vs.length - n) nilV)) :=
          fun ty => Lib.run_clear_slice wr _ _ ty _ Try.underlying22 (fun _ => by kernel_rfl) rfl rfl ob n _ _ (by omega) (fun j hj => by
            rw [blk_cell hbk2, List.getElem?_toArray, List.getElem?_eq_getElem (by simp [hstl]; omega)]; rfl) (fun j hj => blk_frozen hbk2 _)
        have hfin : Aside0 (Chg (fun k => k = ob) w (wr.setCells ob n (List.replicate (vs.length - n) nilV)) ∧ (wr.setCells ob n (List.replicate (vs.length - n) nilV)).heap[ob]? = some (.cells (K ++ List.replicate (vs.length - K.length) nilV ++ tl).toArray 28 (0, 0))) := ⟨by
          refine ⟨hC.out.setCells (g := ob) rfl n _, ?_⟩
          rw [hst] at hbk2
          obtain ⟨cur, h1, h2, h3⟩ := setCells_row (List.replicate (vs.length - n) nilV) n wr _ hbk2 (by simp; omega)
          rw [h1]
          congr 2
          apply Array.toList_inj.1
          rw [h3, hn]
          exact splice_done hn (by simp) (by omega)⟩
        clear hbk2 hst hBk hC hsz hstl hm1
        go_wp2
        go_ret
        exact ⟨by rw [hn]; rfl, hfin.out⟩

end Go.Proofs.Ytliagbliaiigaaa.Hy
