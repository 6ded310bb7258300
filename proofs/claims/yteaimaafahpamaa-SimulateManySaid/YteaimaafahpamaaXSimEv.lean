/- By hand (sim_firev0, sim_fir0): a part of this seat's proofs. -/
import Derived.Test.YteaimaafahpamaaXPure
import Derived.Test.YteaimaafahpamaaH5
import Derived.Test.YteaimaafahpamaaH10
import Derived.Test.YteaimaafahpamaaH22
import Derived.Test.YteaimaafahpamaaH18
import Derived.Test.YteaimaafahpamaaM2
namespace Go.Proofs.Yteaimaafahpamaa.Hy
open Go.RowKit Go.Shelf Go.Proofs.YteaimaafahpamaaW.PrintWords Go.Proofs.YteaimaafahpamaaW.PrintLast Go.Proofs.YteaimaafahpamaaW.PrintMore
set_option linter.unusedVariables false
set_option linter.unusedSimpArgs false
attribute [local go_sem] Oper.semAt_some
/-! ### fir_ev.lean without what is of the reference's Fire -/
def markB (n : Nat) (m : List Int) : Bool := decide (m.length = n) && m.all fun x => decide (0 ≤ x) && decide (x ≤ 1048576)
theorem markB_ok {n : Nat} {m : List Int} (h : markB n m = true) : MOk n m := by
  simp only [markB, Bool.and_eq_true, decide_eq_true_eq, List.all_eq_true] at h
  exact ⟨h.1, fun x hx => h.2 x hx⟩
theorem valid_ev (m : List Int) (n : Nat) (hl : m.length ≤ 9223372036854775807) : Ev (fun k => marking_Valid.f k m (n : Int)) (markB n m) := by
  simp only [marking_Valid.f]
  by_cases hn : m.length = n
  · simp only [if_pos (show (m.length : Int) = (n : Int) by omega)]
    have e : markB n m = (m.drop 0).all fun x => decide (0 ≤ x) && decide (x ≤ 1048576) := by simp [markB, hn]
    rw [e]
    refine Ev.loop m.length (fun k i => marking_Valid.l0 k m (m.length : Int) (i : Int)) (fun i => (m.drop i).all fun x => decide (0 ≤ x) && decide (x ≤ 1048576)) (fun i hi ih => ?_) ?_ 0 (Nat.zero_le _)
    · refine Ev.up ?_
      simp only [marking_Valid.l0, if_pos (show (i : Int) < (m.length : Int) by omega), if_pos (show (0 : Int) ≤ (i : Int) by omega), w_succ (show i < 9223372036854775807 by omega)]
      rw [drop_rd hi, List.all_cons]
      by_cases h1 : rd m (i : Int) < 0
      · simp only [if_pos h1, decide_eq_false (show ¬ 0 ≤ rd m (i : Int) by omega), Bool.false_and]; exact Ev.of fun _ => rfl
      · by_cases h2 : rd m (i : Int) > 1048576
        · simp only [if_neg h1, if_pos h2, decide_eq_false (show ¬ rd m (i : Int) ≤ 1048576 by omega), Bool.and_false, Bool.false_and]; exact Ev.of fun _ => rfl
        · simp only [if_neg h1, if_neg h2, decide_eq_true (show 0 ≤ rd m (i : Int) by omega), decide_eq_true (show rd m (i : Int) ≤ 1048576 by omega), Bool.and_self, Bool.true_and]
          exact ih
    · refine Ev.up ?_
      simp only [marking_Valid.l0, if_neg (show ¬ (m.length : Int) < (m.length : Int) by omega)]
      rw [List.drop_length]; exact Ev.of fun _ => rfl
  · simp only [if_neg (show ¬ (m.length : Int) = (n : Int) by omega)]
    refine Ev.val ?_
    simp [markB, hn]
theorem valid4_ev (m : List Int) (n : Nat) (hl : m.length ≤ 9223372036854775807) : Ev (fun k => petrinetref04_Valid.f k m (n : Int)) (markB n m) := by
  simp only [petrinetref04_Valid.f]
  have e : markB n m = (((m.drop 0).all fun x => decide (0 ≤ x) && decide (x ≤ 1048576)) && decide (m.length = n)) := by simp [markB, Bool.and_comm]
  rw [e]
  refine Ev.loop m.length (fun k i => petrinetref04_Valid.l0 k m (n : Int) (i : Int)) (fun i => ((m.drop i).all fun x => decide (0 ≤ x) && decide (x ≤ 1048576)) && decide (m.length = n)) (fun i hi ih => ?_) ?_ 0 (Nat.zero_le _)
  · refine Ev.up ?_
    simp only [petrinetref04_Valid.l0, if_pos (show (i : Int) < (m.length : Int) by omega), if_pos (show (0 : Int) ≤ (i : Int) by omega), w_succ (show i < 9223372036854775807 by omega)]
    rw [drop_rd hi, List.all_cons]
    by_cases h1 : rd m (i : Int) < 0
    · simp only [if_pos h1, decide_eq_false (show ¬ 0 ≤ rd m (i : Int) by omega), Bool.false_and]; exact Ev.of fun _ => rfl
    · by_cases h2 : rd m (i : Int) > 1048576
      · simp only [if_neg h1, if_pos h2, decide_eq_false (show ¬ rd m (i : Int) ≤ 1048576 by omega), Bool.and_false, Bool.false_and]; exact Ev.of fun _ => rfl
      · simp only [if_neg h1, if_neg h2, decide_eq_true (show 0 ≤ rd m (i : Int) by omega), decide_eq_true (show rd m (i : Int) ≤ 1048576 by omega), Bool.and_self, Bool.true_and]
        exact ih
  · refine Ev.up ?_
    simp only [petrinetref04_Valid.l0, if_neg (show ¬ (m.length : Int) < (m.length : Int) by omega)]
    rw [List.drop_length, List.all_nil, Bool.true_and]
    refine Ev.val ?_
    by_cases h : m.length = n
    · simp [h]
    · have : ¬ (m.length : Int) = (n : Int) := by omega
      simp [h, this]
def memB (l : List Int) (t : Int) : Bool := l.any fun x => decide (x = t)
theorem memB_iff (l : List Int) (t : Int) : memB l t = true ↔ t ∈ l := by
  simp [memB]
theorem among_ev (l : List Int) (t : Int) (hl : l.length ≤ 9223372036854775807) : Ev (fun k => firing_among.f k l t) (memB l t) := by
  simp only [firing_among.f]
  have e : memB l t = memB (l.drop 0) t := by simp
  rw [e]
  refine Ev.loop l.length (fun k i => firing_among.l0 k t l (l.length : Int) (i : Int)) (fun i => memB (l.drop i) t) (fun i hi ih => ?_) ?_ 0 (Nat.zero_le _)
  · refine Ev.up ?_
    simp only [firing_among.l0, if_pos (show (i : Int) < (l.length : Int) by omega), if_pos (show (0 : Int) ≤ (i : Int) by omega), w_succ (show i < 9223372036854775807 by omega)]
    rw [drop_rd hi]
    by_cases h : rd l (i : Int) = t
    · simp only [if_pos h]; refine Ev.val ?_; simp [memB, h]
    · simp only [if_neg h]
      refine ih.cast ?_
      simp [memB, h]
  · refine Ev.up ?_
    simp only [firing_among.l0, if_neg (show ¬ (l.length : Int) < (l.length : Int) by omega)]
    rw [List.drop_length]; exact Ev.of fun _ => rfl
/-! Fires -/
def rdyN (ps : List S65) (ts : List S68) (m : List Int) (n : Nat) : List Nat := (List.range n).filter fun i : Nat => rfReady ps (rd_T68 ts (i : Int)) m
def ints (l : List Nat) : List Int := l.map fun i : Nat => (i : Int)
theorem rdyN_succ (ps : List S65) (ts : List S68) (m : List Int) (n : Nat) : rdyN ps ts m (n + 1) = if rfReady ps (rd_T68 ts (n : Int)) m = true then rdyN ps ts m n ++ [n] else rdyN ps ts m n := by
  unfold rdyN
  rw [List.range_succ, List.filter_append]
  by_cases h : rfReady ps (rd_T68 ts (n : Int)) m = true <;> simp [h]
def mostN (ps : List S65) (ts : List S68) (m : List Int) : Nat → Int
  | 0 => 0
  | n + 1 => if rfReady ps (rd_T68 ts (n : Int)) m = true then mx (mostN ps ts m n) (rd_T68 ts (n : Int)).f4 else mostN ps ts m n
theorem rdyN_len (ps : List S65) (ts : List S68) (m : List Int) (n : Nat) : (rdyN ps ts m n).length ≤ n := by
  unfold rdyN
  have := List.length_filter_le (fun i : Nat => rfReady ps (rd_T68 ts (i : Int)) m) (List.range n)
  simpa using this
theorem rdyN_lt {ps : List S65} {ts : List S68} {m : List Int} {n i : Nat} (h : i ∈ rdyN ps ts m n) : i < n := List.mem_range.1 (List.mem_filter.1 h).1
def firesN (ps : List S65) (ts : List S68) (m : List Int) : List Int := ints ((rdyN ps ts m ts.length).filter fun i : Nat => decide ((rd_T68 ts (i : Int)).f4 = mostN ps ts m ts.length))
theorem rd_ints (l : List Nat) (i : Nat) (hi : i < l.length) : rd (ints l) (i : Int) = ((l[i]'hi : Nat) : Int) := by
  rw [rd_nat, List.getD_eq_getElem?_getD, ints, List.getElem?_map, List.getElem?_eq_getElem hi]; rfl
theorem fires_ev (nm : ByteArray) (ps : List S65) (ts : List S68) (m : List Int) (hl : ts.length ≤ 1000) (hm : ps.length ≤ m.length) : Ev (fun k => petrinetref11_Fires.f k nm ps ts m) (firesN ps ts m) := by
  simp only [petrinetref11_Fires.f]
  refine Ev.loop ts.length (fun k i => petrinetref11_Fires.l0 k m (ints (rdyN ps ts m i)) (mostN ps ts m i) (i : Int) nm ps ts) (fun _ => firesN ps ts m) (fun i hi ih => ?_) ?_ 0 (Nat.zero_le _)
  · have hlen : (ints (rdyN ps ts m i)).length ≤ i := by have := rdyN_len ps ts m i; simpa [ints] using this
    refine Ev.up ?_
    have hR : petrinetref11_Ready.f nm ps ts m (i : Int) = some (rfReady ps (rd_T68 ts (i : Int)) m) := if_pos ⟨by omega, by omega, hm⟩
    simp only [petrinetref11_Fires.l0, if_pos (show (i : Int) < (ts.length : Int) by omega), if_pos (show (0 : Int) ≤ (i : Int) by omega), w_succ (show i < 9223372036854775807 by omega), hR, Option.bind_some]
    rw [rdyN_succ, mostN] at ih
    by_cases h : rfReady ps (rd_T68 ts (i : Int)) m = true
    · simp only [if_pos h, if_pos (show (ints (rdyN ps ts m i)).length < 17592186044416 by omega)]
      rw [if_pos h, if_pos h] at ih
      have : ints (rdyN ps ts m i ++ [i]) = ints (rdyN ps ts m i) ++ [(i : Int)] := by simp [ints]
      rw [this] at ih
      exact ih
    · simp only [if_neg h]
      rw [if_neg h, if_neg h] at ih
      exact ih
  · refine Ev.up ?_
    simp only [petrinetref11_Fires.l0, if_neg (show ¬ (ts.length : Int) < (ts.length : Int) by omega)]
    obtain ⟨R, hR⟩ : ∃ R, rdyN ps ts m ts.length = R := ⟨_, rfl⟩
    have hlt : ∀ i ∈ R, i < ts.length := fun i hi => rdyN_lt (hR ▸ hi)
    have hlR : R.length ≤ ts.length := by rw [← hR]; exact rdyN_len ps ts m _
    obtain ⟨mo, hmo⟩ : ∃ mo, mostN ps ts m ts.length = mo := ⟨_, rfl⟩
    rw [firesN, hR, hmo]
    have key := Ev.loop R.length (fun k i => petrinetref11_Fires.l1 k (ints R) mo (ints ((R.take i).filter fun i : Nat => decide ((rd_T68 ts (i : Int)).f4 = mo))) (i : Int) nm ps ts) (fun _ => ints (R.filter fun i : Nat => decide ((rd_T68 ts (i : Int)).f4 = mo))) (fun i hi ih => ?_) ?_ 0 (Nat.zero_le _)
    · simpa [ints] using key
    · have hli : (ints R).length = R.length := by simp [ints]
      have hx := hlt _ (List.getElem_mem hi)
      have hfl : (ints ((R.take i).filter fun i : Nat => decide ((rd_T68 ts (i : Int)).f4 = mo))).length ≤ i := by
        have h1 := List.length_filter_le (fun i : Nat => decide ((rd_T68 ts (i : Int)).f4 = mo)) (R.take i)
        simp only [ints, List.length_map]
        have h2 : (R.take i).length ≤ i := List.length_take_le _ _
        omega
      refine Ev.up ?_
      simp only [petrinetref11_Fires.l1, hli, if_pos (show (i : Int) < (R.length : Int) by omega), if_pos (show (0 : Int) ≤ (i : Int) by omega), w_succ (show i < 9223372036854775807 by omega), rd_ints R i hi]
      simp only [if_pos (show (0 : Int) ≤ ((R[i]'hi : Nat) : Int) by omega), if_pos (show ((R[i]'hi : Nat) : Int) < (ts.length : Int) by omega)]
      simp only [List.take_succ_eq_append_getElem hi, List.filter_append] at ih
      by_cases h : (rd_T68 ts ((R[i]'hi : Nat) : Int)).f4 = mo
      · simp only [if_pos h, if_pos (show (ints ((R.take i).filter fun i : Nat => decide ((rd_T68 ts (i : Int)).f4 = mo))).length < 17592186044416 by omega)]
        refine Ev.congr ih (fun k => ?_)
        simp [ints, h]
      · simp only [if_neg h]
        refine Ev.congr ih (fun k => ?_)
        simp [ints, h]
    · refine Ev.up ?_
      have hli : (ints R).length = R.length := by simp [ints]
      simp only [petrinetref11_Fires.l1, hli, if_neg (show ¬ (R.length : Int) < (R.length : Int) by omega)]
      rw [List.take_length]; exact Ev.of fun _ => rfl
theorem mx_eq (a b : Int) : mx a b = if a < b then b else a := by unfold mx; split <;> first | rfl | omega
theorem most_rel {ps : List S65} {ts : List S68} {m : List Int} (hn : NetOk ps ts) (hm : MOk ps.length m) : ∀ n, n ≤ ts.length →
    (mostL ps m (ts.take n) = -1 ∧ rdyN ps ts m n = [] ∧ mostN ps ts m n = 0) ∨ (mostL ps m (ts.take n) = mostN ps ts m n ∧ 0 ≤ mostN ps ts m n) := by
  intro n
  induction n with
  | zero => intro _; exact .inl ⟨rfl, rfl, rfl⟩
  | succ n ih =>
    intro h
    have hmem := rdT_mem (show n < ts.length by omega)
    have hpr := (hn.tr _ hmem).prio
    rw [take_rdT' (show n < ts.length by omega), mostL_snoc, rdyN_succ, mostN, ready_eq hn hmem hm]
    by_cases hr : rfReady ps (rd_T68 ts (n : Int)) m = true
    · rw [if_pos hr, if_pos hr, mx_eq]
      rcases ih (by omega) with ⟨h1, h2, h3⟩ | ⟨h1, h2⟩
      · right
        rw [h1, h3, if_pos ⟨by omega, hr⟩]
        split <;> omega
      · right
        rw [h1]
        by_cases hlt : mostN ps ts m n < (rd_T68 ts (n : Int)).f4
        · rw [if_pos ⟨hlt, hr⟩, if_pos hlt]; omega
        · rw [if_neg (fun h => hlt h.1), if_neg hlt]; omega
    · rw [if_neg hr, if_neg hr, if_neg (fun h => hr h.2)]
      exact ih (by omega)
theorem may_eq {ps : List S65} {ts : List S68} {m : List Int} (hn : NetOk ps ts) (hm : MOk ps.length m) : mayL ps m ts = firesN ps ts m := by
  rw [mayL, firesN, idxP, ints]
  congr 1
  rw [rdyN, List.filter_filter]
  rcases most_rel hn hm ts.length (Nat.le_refl _) with ⟨h1, h2, h3⟩ | ⟨h1, h2⟩
  · rw [List.take_length] at h1
    apply List.filter_congr
    intro i hi
    have hi' := List.mem_range.1 hi
    have hr : rfReady ps (rd_T68 ts (i : Int)) m = false := by
      cases h : rfReady ps (rd_T68 ts (i : Int)) m with
      | false => rfl
      | true =>
        have : i ∈ rdyN ps ts m ts.length := List.mem_filter.2 ⟨hi, h⟩
        rw [h2] at this; simp at this
    rw [ready_eq hn (rdT_mem hi') hm, hr, Bool.and_false, Bool.and_false]
  · rw [List.take_length] at h1
    apply List.filter_congr
    intro i hi
    rw [ready_eq hn (rdT_mem (List.mem_range.1 hi)) hm, h1]
/-! Fire -/
def fireR (nm : ByteArray) (ps : List S65) (ts : List S68) (m : List Int) (t : Int) : List Int × Int :=
  if (chkNet nm ps ts).1 ≠ 0 then ([], (chkNet nm ps ts).1) else if markB ps.length m = false then ([], 2) else if t < 0 ∨ t ≥ (ts.length : Int) then ([], 1)
  else if memB (firesN ps ts m) t = false then ([], 13) else match refAfter (rd_T68 ts t) m ps.length with
    | some o => (o, 0)
    | none => ([], 3)
theorem firesN_len (ps : List S65) (ts : List S68) (m : List Int) : (firesN ps ts m).length ≤ ts.length := by
  have h1 := List.length_filter_le (fun i : Nat => decide ((rd_T68 ts (i : Int)).f4 = mostN ps ts m ts.length)) (rdyN ps ts m ts.length)
  have h2 := rdyN_len ps ts m ts.length
  simp only [firesN, ints, List.length_map]
  omega
theorem change_eq {nm : ByteArray} {ps : List S65} {ts : List S68} {t : S68} {m : List Int} (hn : NetOk ps ts) (ht : t ∈ ts) (hM : MOk ps.length m) : chgAdd t.f2 (chgSub t.f1 m) = aftL t m ps.length := by
  rw [chg_eq hn ht hM, aftL]
  apply List.map_congr_left
  intro p _
  rw [rfAfter_eq hn ht hM]
theorem fire_ev (nm : ByteArray) (ps : List S65) (ts : List S68) (m : List Int) (t : Int) (hm : m.length ≤ 9223372036854775807) : Ev (fun k => firing_Fire.f k nm ps ts m t) (fireR nm ps ts m t) := by
  simp only [firing_Fire.f, net_Check.f, Option.bind_some]
  rw [fireR]
  by_cases hc : (chkNet nm ps ts).1 = 0
  · simp only [if_pos hc]
    rw [if_neg (by simp [hc])]
    have hn := (chkNet_ok hc).2
    refine Ev.bind (valid_ev m ps.length hm) ?_
    cases hv : markB ps.length m with
    | false => simp only [if_neg (show ¬ (false = true) by decide), if_true]; exact Ev.of fun _ => rfl
    | true =>
      have hM := markB_ok hv
      simp only [if_true]
      rw [if_neg (by simp)]
      have bad : t < 0 ∨ t ≥ (ts.length : Int) → Ev (fun k => firing_Fire.j0 k m t true nm ps ts) (([] : List Int), (1 : Int)) := fun h => Ev.up (Ev.of fun _ => by simp [firing_Fire.j0])
      by_cases h1 : t < 0
      · simp only [if_pos h1]; rw [if_pos (.inl h1)]; exact bad (.inl h1)
      · simp only [if_neg h1]
        by_cases h2 : t ≥ (ts.length : Int)
        · simp only [decide_eq_true h2]; rw [if_pos (.inr h2)]; exact bad (.inr h2)
        · simp only [decide_eq_false h2]
          rw [if_neg (by omega)]
          refine Ev.up ?_
          have hL : firing_list.f nm ps ts m = some (firesN ps ts m) := by
            rw [firing_list.f, if_pos ⟨fun t ht => readyOk_of hn ht hM, by have := hn.nt; omega⟩, may_eq hn hM]
          simp only [firing_Fire.j0, if_neg (show ¬ (false = true) by decide), hL, Option.bind_some]
          refine Ev.bind (among_ev _ t (by have := firesN_len ps ts m; have := hn.nt; omega)) ?_
          cases hb : memB (firesN ps ts m) t with
          | false => simp only [if_neg (show ¬ (false = true) by decide), if_true]; exact Ev.of fun _ => rfl
          | true =>
            simp only [if_true]
            rw [if_neg (by simp)]
            obtain ⟨n, rfl⟩ := Int.eq_ofNat_of_zero_le (show 0 ≤ t by omega)
            have hmem := rdT_mem (show n < ts.length by omega)
            have hT := hn.tr _ hmem
            have hC : firing_change.f (rd_T68 ts (n : Int)).f0 (rd_T68 ts (n : Int)).f1 (rd_T68 ts (n : Int)).f2 (rd_T68 ts (n : Int)).f3 (rd_T68 ts (n : Int)).f4 m = some (aftL (rd_T68 ts (n : Int)) m ps.length) := by
              have h3 := readyOk_of hn hmem hM
              rw [firing_change.f, if_pos ⟨h3.1, h3.2.1, h3.2.2.2.1⟩, change_eq (nm := nm) hn hmem hM]
            simp only [if_pos (show (0 : Int) ≤ (n : Int) by omega), if_pos (show (n : Int) < (ts.length : Int) by omega), hC, Option.bind_some]
            obtain ⟨o, ho⟩ : ∃ o, aftL (rd_T68 ts (n : Int)) m ps.length = o := ⟨_, rfl⟩
            have hol : o.length = ps.length := by rw [← ho, aftL_len]
            have hrd : ∀ p : Nat, p < o.length → rd o (p : Int) = rfAfter (rd_T68 ts (n : Int)) m p := fun p hp => by
              rw [← ho, rd_nat, List.getD_eq_getElem?_getD, aftL, List.getElem?_map, List.getElem?_range (by omega)]; rfl
            have hre : refAfter (rd_T68 ts (n : Int)) m ps.length = if ((List.range ps.length).drop 0).all (fun p : Nat => decide (rfAfter (rd_T68 ts (n : Int)) m p ≤ 1048576)) = true then some o else none := by rw [refAfter, ← ho]; rfl
            rw [ho]
            have goal : (match refAfter (rd_T68 ts (n : Int)) m ps.length with | some o => (o, (0 : Int)) | none => ([], 3)) = if ((List.range ps.length).drop 0).all (fun p : Nat => decide (rfAfter (rd_T68 ts (n : Int)) m p ≤ 1048576)) = true then (o, (0 : Int)) else ([], 3) := by
              rw [hre]; split <;> simp_all
            show Ev _ (match refAfter (rd_T68 ts (n : Int)) m ps.length with | some o => (o, (0 : Int)) | none => ([], 3))
            rw [goal]
            refine Ev.loop o.length (fun k i => firing_Fire.l0 k o o (o.length : Int) (i : Int)) (fun i => if ((List.range ps.length).drop i).all (fun p : Nat => decide (rfAfter (rd_T68 ts (n : Int)) m p ≤ 1048576)) = true then (o, (0 : Int)) else ([], 3)) (fun i hi ih => ?_) ?_ 0 (Nat.zero_le _)
            · refine Ev.up ?_
              have hnp := hn.np
              simp only [firing_Fire.l0, if_pos (show (i : Int) < (o.length : Int) by omega), if_pos (show (0 : Int) ≤ (i : Int) by omega), w_succ (show i < 9223372036854775807 by omega), hrd i hi]
              rw [range_drop (show i < ps.length by omega), List.all_cons]
              by_cases hb : rfAfter (rd_T68 ts (n : Int)) m (i : Int) > 1048576
              · simp only [if_pos hb]
                rw [decide_eq_false (by omega), Bool.false_and, if_neg (by simp)]; exact Ev.of fun _ => rfl
              · simp only [if_neg hb]
                rw [decide_eq_true (by omega), Bool.true_and]; exact ih
            · refine Ev.up ?_
              simp only [firing_Fire.l0, if_neg (show ¬ (o.length : Int) < (o.length : Int) by omega)]
              rw [List.drop_of_length_le (by simp; omega)]
              exact Ev.of fun _ => rfl
  · simp only [if_neg hc]
    rw [if_pos hc]; exact Ev.of fun _ => rfl
theorem same_ev (l : List Int) (hl : l.length ≤ 9223372036854775807) : Ev (fun k => petrinetref04_Same.f k l l) true := by
  simp only [petrinetref04_Same.f, if_true]
  refine Ev.loop l.length (fun k i => petrinetref04_Same.l0 k l l (i : Int)) (fun _ => true) (fun i hi ih => ?_) ?_ 0 (Nat.zero_le _)
  · refine Ev.up ?_
    simp only [petrinetref04_Same.l0, if_pos (show (i : Int) < (l.length : Int) by omega), if_pos (show (0 : Int) ≤ (i : Int) by omega), w_succ (show i < 9223372036854775807 by omega), if_true]
    exact ih
  · refine Ev.up ?_
    simp only [petrinetref04_Same.l0, if_neg (show ¬ (l.length : Int) < (l.length : Int) by omega)]
    exact Ev.of fun _ => rfl

/-! ### runs of firing, as the law wants them -/
theorem fits_ev (nm : ByteArray) (ps : List S65) (ts : List S68) (m : List Int) (hm : m.length ≤ 9223372036854775807) : Ev (fun k => firing_fits.f k nm ps ts m) (decide ((chkNet nm ps ts).1 = 0) && markB ps.length m) := by
  simp only [firing_fits.f, net_Check.f, Option.bind_some]
  by_cases hc : (chkNet nm ps ts).1 = 0
  · simp only [if_pos hc, decide_eq_true hc, Bool.true_and]
    exact Ev.bind (valid_ev m ps.length hm) (Ev.of fun _ => rfl)
  · simp only [if_neg hc, decide_eq_false hc, Bool.false_and]; exact Ev.of fun _ => rfl
theorem small_lenOk {nm : ByteArray} {ps : List S65} {ts : List S68} (h : small nm ps ts) : lenOk ts := fun t ht => by
  have := h.2.2.2.2 t ht
  unfold smT at this
  omega
theorem fireR_len (nm : ByteArray) (ps : List S65) (ts : List S68) (m : List Int) (t : Int) : (fireR nm ps ts m t).1.length ≤ ps.length := by
  rw [fireR]
  split
  · simp
  · split
    · simp
    · split
      · simp
      · split
        · simp
        · cases hr : refAfter (rd_T68 ts t) m ps.length with
          | none => simp
          | some o =>
            rw [refAfter] at hr
            split at hr
            · injection hr with hr; rw [← hr]; simp
            · cases hr

end Go.Proofs.Yteaimaafahpamaa.Hy
