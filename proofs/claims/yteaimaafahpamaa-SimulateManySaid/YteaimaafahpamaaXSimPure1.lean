/- By hand (sim_ev, sim_ev2): a part of this seat's proofs. -/
import Derived.Test.YteaimaafahpamaaXSimRand
import Derived.Test.YteaimaafahpamaaXSimEv
import Derived.Test.YteaimaafahpamaaM3
import Derived.Test.YteaimaafahpamaaH5
namespace Go.Proofs.Yteaimaafahpamaa.Hy
open Go.RowKit Go.Shelf Go.Proofs.YteaimaafahpamaaW.PrintWords Go.Proofs.YteaimaafahpamaaW.PrintLast Go.Proofs.YteaimaafahpamaaW.PrintMore
set_option linter.unusedVariables false
set_option linter.unusedSimpArgs false
attribute [local go_sem] Oper.semAt_some
/-! ### what is chosen -/
def wmayL (ws may : List Int) : List Int := may.foldl (fun w t => w.set t.toNat (rd ws t)) (List.replicate ws.length 0)
def smayL (ws may : List Int) : Int := may.foldl (fun s t => wrap64 (s + rd ws t)) 0
theorem wmayL_len (ws : List Int) : ∀ (may w : List Int), (may.foldl (fun w t => w.set t.toNat (rd ws t)) w).length = w.length := by
  intro may
  induction may with
  | nil => intro w; rfl
  | cons t r ih => intro w; rw [List.foldl_cons, ih, List.length_set]
theorem fires_mem {ps : List S65} {ts : List S68} {m : List Int} {t : Int} (h : t ∈ firesN ps ts m) : ∃ i : Nat, t = (i : Int) ∧ i < ts.length ∧ rfReady ps (rd_T68 ts (i : Int)) m = true := by
  unfold firesN ints at h
  obtain ⟨i, hi, rfl⟩ := List.mem_map.1 h
  have h1 := (List.mem_filter.1 hi).1
  exact ⟨i, rfl, rdyN_lt h1, (List.mem_filter.1 h1).2⟩
theorem fires_nodup (ps : List S65) (ts : List S68) (m : List Int) : (firesN ps ts m).Nodup := by
  unfold firesN ints rdyN
  exact List.Pairwise.map _ (fun a b (hab : a ≠ b) => fun h => hab (by exact_mod_cast h)) ((List.nodup_range.filter _).filter _)
theorem getD_set (w : List Int) (i n : Nat) (v : Int) : (w.set i v).getD n 0 = if i = n ∧ n < w.length then v else w.getD n 0 := by
  simp only [List.getD_eq_getElem?_getD, List.getElem?_set]
  by_cases h : i = n
  · subst h
    by_cases h2 : i < w.length
    · simp [h2]
    · simp [h2]
  · simp [h]
theorem wfold_at (ws : List Int) : ∀ (may w : List Int), (∀ t ∈ may, 0 ≤ t ∧ t < (w.length : Int)) → ∀ n : Nat, (may.foldl (fun w t => w.set t.toNat (rd ws t)) w).getD n 0 = if (n : Int) ∈ may then rd ws (n : Int) else w.getD n 0 := by
  intro may
  induction may with
  | nil => intro w _ n; simp
  | cons t r ih =>
    intro w h n
    have ht := h t List.mem_cons_self
    rw [List.foldl_cons, ih (w.set t.toNat (rd ws t)) (fun x hx => by rw [List.length_set]; exact h x (List.mem_cons_of_mem _ hx)) n, getD_set]
    by_cases h1 : (n : Int) ∈ r
    · rw [if_pos h1, if_pos (List.mem_cons_of_mem _ h1)]
    · rw [if_neg h1]
      by_cases h2 : t = (n : Int)
      · subst h2
        rw [if_pos ⟨by simp, by omega⟩, if_pos List.mem_cons_self]
      · rw [if_neg (fun e => h2 (by omega)), if_neg (fun e => (List.mem_cons.1 e).elim (fun e => h2 e.symm) h1)]
theorem sum_set : ∀ (w : List Int) (i : Nat) (v : Int), i < w.length → (w.set i v).sum = w.sum - w.getD i 0 + v := by
  intro w
  induction w with
  | nil => intro i v h; simp at h
  | cons x r ih =>
    intro i v h
    cases i with
    | zero => simp; omega
    | succ i =>
      simp only [List.set_cons_succ, List.sum_cons, List.getD_cons_succ]
      rw [ih i v (by simpa using h)]
      omega
def sumW (ws may : List Int) : Int := (may.map (rd ws)).sum
theorem wfold_sum (ws : List Int) : ∀ (may w : List Int), (∀ t ∈ may, 0 ≤ t ∧ t < (w.length : Int)) → may.Nodup → (∀ t ∈ may, w.getD t.toNat 0 = 0) → (may.foldl (fun w t => w.set t.toNat (rd ws t)) w).sum = w.sum + sumW ws may := by
  intro may
  induction may with
  | nil => intro w _ _ _; simp [sumW]
  | cons t r ih =>
    intro w h hn h0
    have ht := h t List.mem_cons_self
    have hn2 := List.nodup_cons.1 hn
    rw [List.foldl_cons, ih (w.set t.toNat (rd ws t)) (fun x hx => by rw [List.length_set]; exact h x (List.mem_cons_of_mem _ hx)) hn2.2 (fun x hx => by
      have hx1 := h x (List.mem_cons_of_mem _ hx)
      rw [getD_set, if_neg (fun e => hn2.1 (by have : x = t := by omega
                                               rw [← this]; exact hx))]
      exact h0 x (List.mem_cons_of_mem _ hx)), sum_set w _ _ (by omega), h0 t List.mem_cons_self]
    simp only [sumW, List.map_cons, List.sum_cons]
    omega
theorem sumW_bd (ws : List Int) (hw : ∀ w ∈ ws, okW w) : ∀ may : List Int, 0 ≤ sumW ws may ∧ sumW ws may ≤ 1000 * may.length := by
  intro may
  induction may with
  | nil => simp [sumW]
  | cons t r ih =>
    have h1 : 0 ≤ rd ws t ∧ rd ws t ≤ 1000 := by
      rw [rd, List.getD_eq_getElem?_getD]
      cases hx : ws[t.toNat]? with
      | none => simp
      | some x => exact hw x (List.mem_of_getElem? hx)
    simp only [sumW, List.map_cons, List.sum_cons, List.length_cons] at ih ⊢
    omega
theorem sfold_eq (ws : List Int) (hw : ∀ w ∈ ws, okW w) : ∀ (may : List Int) (s : Int), 0 ≤ s → s + 1000 * may.length ≤ 1000000000 → may.foldl (fun s t => wrap64 (s + rd ws t)) s = s + sumW ws may := by
  intro may
  induction may with
  | nil => intro s _ _; simp [sumW]
  | cons t r ih =>
    intro s h0 h1
    have hb := sumW_bd ws hw [t]
    simp only [sumW, List.map_cons, List.map_nil, List.sum_cons, List.sum_nil, List.length_singleton] at hb
    simp only [List.length_cons] at h1
    rw [List.foldl_cons, w64_id (by omega) (by omega), ih _ (by omega) (by omega)]
    simp only [sumW, List.map_cons, List.sum_cons]
    omega
structure Way (ps : List S65) (ts : List S68) (ws m : List Int) : Prop where
  net : NetOk ps ts
  mark : MOk ps.length m
  len : ws.length = ts.length
  ok : ∀ w ∈ ws, okW w
def wgt (ps : List S65) (ts : List S68) (ws m : List Int) : List Int := wmayL ws (firesN ps ts m)
namespace Way
variable {ps : List S65} {ts : List S68} {ws m : List Int}
theorem may_lt (h : Way ps ts ws m) : ∀ t ∈ firesN ps ts m, 0 ≤ t ∧ t < (ws.length : Int) := fun t ht => by
  obtain ⟨i, rfl, hi, _⟩ := fires_mem ht
  have := h.len
  omega
theorem may_len (h : Way ps ts ws m) : (firesN ps ts m).length ≤ 24 := by have := firesN_len ps ts m; have := h.net.nt; omega
theorem wgt_len (h : Way ps ts ws m) : (wgt ps ts ws m).length = ws.length := by unfold wgt wmayL; rw [wmayL_len]; simp
theorem wgt_at (h : Way ps ts ws m) (n : Nat) : (wgt ps ts ws m).getD n 0 = if (n : Int) ∈ firesN ps ts m then rd ws (n : Int) else 0 := by
  unfold wgt wmayL
  rw [wfold_at ws _ _ (fun t ht => by rw [List.length_replicate]; exact h.may_lt t ht)]
  congr 1
  simp [List.getD_eq_getElem?_getD, List.getElem?_replicate]
  split <;> rfl
theorem rd_ok (h : Way ps ts ws m) (n : Nat) : okW (rd ws (n : Int)) := by
  rw [rd, List.getD_eq_getElem?_getD]
  cases hx : ws[(n : Int).toNat]? with
  | none => simp [okW]
  | some x => exact h.ok x (List.mem_of_getElem? hx)
theorem wgt_ok (h : Way ps ts ws m) : ∀ w ∈ wgt ps ts ws m, okW w := by
  intro w hw
  obtain ⟨n, hn, rfl⟩ := List.getElem_of_mem hw
  have e : (wgt ps ts ws m)[n] = (wgt ps ts ws m).getD n 0 := by rw [List.getD_eq_getElem?_getD, List.getElem?_eq_getElem hn]; rfl
  rw [e, h.wgt_at n]
  split
  · exact h.rd_ok n
  · simp [okW]
theorem wgt_sum (h : Way ps ts ws m) : (wgt ps ts ws m).sum = sumW ws (firesN ps ts m) := by
  unfold wgt wmayL
  rw [wfold_sum ws _ _ (fun t ht => by rw [List.length_replicate]; exact h.may_lt t ht) (fires_nodup ps ts m) (fun t _ => by simp [List.getD_eq_getElem?_getD, List.getElem?_replicate]; split <;> rfl)]
  simp
theorem smay (h : Way ps ts ws m) : smayL ws (firesN ps ts m) = (wgt ps ts ws m).sum := by
  rw [h.wgt_sum, smayL, sfold_eq ws h.ok _ 0 (by omega) (by have := h.may_len; omega)]
  omega
end Way
theorem idx_spec : ∀ (w : List Int) (x i0 : Int), (∀ y ∈ w, okW y) → 0 ≤ x → x < w.sum → ∃ n : Nat, idx w x i0 = i0 + n ∧ n < w.length ∧ 0 < w.getD n 0 := by
  intro w
  induction w with
  | nil => intro x i0 _ h0 h1; simp at h1; omega
  | cons y r ih =>
    intro x i0 hw h0 h1
    rw [idx]
    by_cases h : x < y
    · rw [if_pos h]; exact ⟨0, by simp, by simp, by simp; omega⟩
    · rw [if_neg h]
      simp only [List.sum_cons] at h1
      obtain ⟨n, e, hn, hp⟩ := ih (x - y) (i0 + 1) (fun z hz => hw z (List.mem_cons_of_mem _ hz)) (by omega) (by omega)
      exact ⟨n + 1, by rw [e]; push_cast; omega, by simpa using hn, by simpa using hp⟩
/-- the transition that is chosen -/
noncomputable def chT (ps : List S65) (ts : List S68) (ws m : List Int) (s : Nat) : Int := idx (wgt ps ts ws m) (((outp (stp s) : Nat) : Int) % (wgt ps ts ws m).sum) 0
theorem Way.cho_eq {ps : List S65} {ts : List S68} {ws m : List Int} (h : Way ps ts ws m) (s : Nat) : cho s (wgt ps ts ws m) = if (wgt ps ts ws m).sum = 0 then (-1, (s : Int)) else (chT ps ts ws m s, ((stp s : Nat) : Int)) := by
  rw [cho, if_pos (by simpa using h.wgt_ok)]
  rfl
theorem Way.chT_spec {ps : List S65} {ts : List S68} {ws m : List Int} (h : Way ps ts ws m) (s : Nat) (hz : (wgt ps ts ws m).sum ≠ 0) : ∃ n : Nat, chT ps ts ws m s = (n : Int) ∧ n < ts.length ∧ (n : Int) ∈ firesN ps ts m ∧ 0 < rd ws (n : Int) := by
  have hs := sum_ok _ h.wgt_ok
  obtain ⟨n, e, hn, hp⟩ := idx_spec (wgt ps ts ws m) (((outp (stp s) : Nat) : Int) % (wgt ps ts ws m).sum) 0 h.wgt_ok (Int.emod_nonneg _ hz) (Int.emod_lt_of_pos _ (by omega))
  rw [h.wgt_at n] at hp
  split at hp
  · rename_i hm
    exact ⟨n, by rw [chT, e]; omega, by rw [h.wgt_len, h.len] at hn; exact hn, hm, hp⟩
  · omega

/-! ### the walk of a run -/
theorem after_ok {ps : List S65} {ts : List S68} {m o : List Int} {n : Nat} (hn : NetOk ps ts) (hM : MOk ps.length m) (hlt : n < ts.length) (hr : rfReady ps (rd_T68 ts (n : Int)) m = true) (ho : refAfter (rd_T68 ts (n : Int)) m ps.length = some o) : MOk ps.length o := by
  rw [refAfter] at ho
  split at ho
  · rename_i hall
    injection ho with ho
    subst ho
    refine ⟨by simp, fun x hx => ?_⟩
    obtain ⟨p, hp, rfl⟩ := List.mem_map.1 hx
    have h1 := (List.all_eq_true.1 hall) p hp
    have h2 := (List.all_eq_true.1 hr) p hp
    have h3 := rfAfter_eq hn (rdT_mem hlt) hM (p : Int)
    have hw := wt_bd (hn.tr _ (rdT_mem hlt)).post (p : Int)
    simp only [decide_eq_true_eq] at h1
    simp only [rfBad, Bool.not_eq_true', Bool.or_eq_false_iff, decide_eq_false_iff_not] at h2
    refine ⟨?_, h1⟩
    rw [h3, aft]
    have := h2.1.1
    omega
  · cases ho
noncomputable def walkR (ps : List S65) (ts : List S68) (ws : List Int) : Nat → List Int → Nat → List (Int × List Int) × Nat × Int
  | 0, _, s => ([], s, 0)
  | j + 1, m, s => if (wgt ps ts ws m).sum = 0 then ([], s, 0) else match refAfter (rd_T68 ts (chT ps ts ws m s)) m ps.length with
    | none => ([], 0, 3)
    | some o => ((chT ps ts ws m s, o) :: (walkR ps ts ws j o (stp s)).1, (walkR ps ts ws j o (stp s)).2)
theorem list_ev {nm : ByteArray} {ps : List S65} {ts : List S68} {m : List Int} (hc : (chkNet nm ps ts).1 = 0) (hn : NetOk ps ts) (hM : MOk ps.length m) (hb : markB ps.length m = true) : Ev (fun k => firing_List.f k nm ps ts m) (firesN ps ts m) := by
  simp only [firing_List.f]
  have h24 := hn.np
  have h25 := hn.nt
  refine Ev.bind (fits_ev nm ps ts m (by rw [hM.len]; omega)) ?_
  have hL : firing_list.f nm ps ts m = some (firesN ps ts m) := by
    rw [firing_list.f, if_pos ⟨fun t ht => readyOk_of hn ht hM, by omega⟩, may_eq hn hM]
  simp only [hc, hb, decide_true, Bool.and_self, if_true, hL, Option.bind_some]
  exact Ev.of fun _ => rfl
theorem markB_of {n : Nat} {m : List Int} (h : MOk n m) : markB n m = true := by
  simp only [markB, Bool.and_eq_true, decide_eq_true_eq, List.all_eq_true]
  exact ⟨h.len, fun x hx => h.bd x hx⟩
theorem choose_ev {nm : ByteArray} {ps : List S65} {ts : List S68} {ws m : List Int} (hc : (chkNet nm ps ts).1 = 0) (h : Way ps ts ws m) (s : Nat) : Ev (fun k => simulate_choose.f k nm ps ts ws m (s : Int)) (if (wgt ps ts ws m).sum = 0 then (-1, (s : Int)) else (chT ps ts ws m s, ((stp s : Nat) : Int))) := by
  have hwl : ws.length ≤ 24 := by have := h.len; have := h.net.nt; omega
  have hml := h.may_len
  rw [← h.cho_eq s]
  simp only [simulate_choose.f, if_pos (show (0 : Int) ≤ (ws.length : Int) by omega), if_pos (show ((ws.length : Int)).toNat ≤ 35184372088832 by omega)]
  refine Ev.bind (list_ev hc h.net h.mark (markB_of h.mark)) ?_
  obtain ⟨may, hmay⟩ : ∃ may, firesN ps ts m = may := ⟨_, rfl⟩
  have hlt := h.may_lt
  have hwg : wgt ps ts ws m = may.foldl (fun w t => w.set t.toNat (rd ws t)) (List.replicate ws.length 0) := by unfold wgt wmayL; rw [hmay]
  have hwgl := h.wgt_len
  rw [hmay] at hml hlt ⊢
  simp only [Int.toNat_natCast]
  have main : ∀ (r : List Int) (i : Nat) (w : List Int), may.drop i = r → i ≤ may.length → w.length = ws.length → r.foldl (fun w t => w.set t.toNat (rd ws t)) w = wgt ps ts ws m → Ev (fun k => simulate_choose.l0 k ws (s : Int) w may (may.length : Int) (i : Int)) (cho s (wgt ps ts ws m)) := by
    intro r
    induction r with
    | nil =>
      intro i w hd hi hw hf
      have : i = may.length := by have := congrArg List.length hd; simp at this; omega
      refine Ev.up ?_
      simp only [simulate_choose.l0, if_neg (show ¬ (i : Int) < (may.length : Int) by omega)]
      rw [List.foldl_nil] at hf
      subst hf
      refine ⟨140, fun k hk => ?_⟩
      show (random_Choose.f k (s : Int) (wgt ps ts ws m)).bind _ = _
      rw [choose_eq k s _ hk, if_neg (by omega)]
      rfl
    | cons t r ih =>
      intro i w hd hi hw hf
      have hil : i < may.length := by have := congrArg List.length hd; simp at this; omega
      rw [drop_rd hil] at hd
      injection hd with h1 h2
      have ht : t ∈ may := by rw [← h1]; exact rd_mem hil
      have htl := hlt t ht
      refine Ev.up ?_
      simp only [simulate_choose.l0, if_pos (show (i : Int) < (may.length : Int) by omega), if_pos (show (0 : Int) ≤ (i : Int) by omega), h1, if_pos htl.1, if_pos htl.2, if_pos (show t < (w.length : Int) by omega), w_succ (show i < 9223372036854775807 by omega)]
      rw [List.foldl_cons] at hf
      exact ih (i + 1) _ h2 (by omega) (by rw [List.length_set]; exact hw) hf
  exact main may 0 _ rfl (Nat.zero_le _) (by simp) hwg.symm
theorem Way.next {ps : List S65} {ts : List S68} {ws m o : List Int} (h : Way ps ts ws m) {s : Nat} (hz : (wgt ps ts ws m).sum ≠ 0) (ho : refAfter (rd_T68 ts (chT ps ts ws m s)) m ps.length = some o) : Way ps ts ws o := by
  obtain ⟨n, e, hn, hm, _⟩ := h.chT_spec s hz
  obtain ⟨i, e2, hi, hr⟩ := fires_mem hm
  have : i = n := by omega
  subst this
  rw [e] at ho
  exact ⟨h.net, after_ok h.net h.mark hn hr ho, h.len, h.ok⟩
theorem fire_may {nm : ByteArray} {ps : List S65} {ts : List S68} {ws m : List Int} (hc : (chkNet nm ps ts).1 = 0) (h : Way ps ts ws m) {n : Nat} (hn : n < ts.length) (hm : (n : Int) ∈ firesN ps ts m) : fireR nm ps ts m (n : Int) = match refAfter (rd_T68 ts (n : Int)) m ps.length with | some o => (o, 0) | none => ([], 3) := by
  rw [fireR, if_neg (by simp [hc]), if_neg (by rw [markB_of h.mark]; simp), if_neg (by omega), if_neg (by rw [(memB_iff _ _).2 hm]; simp)]
  cases refAfter (rd_T68 ts (n : Int)) m ps.length <;> rfl
theorem walk_ev {nm : ByteArray} {ps : List S65} {ts : List S68} {ws : List Int} (hc : (chkNet nm ps ts).1 = 0) : ∀ (j : Nat) (m : List Int) (s : Nat), Way ps ts ws m → Ev (fun k => walkL k nm ps ts ws j m (s : Int)) ((walkR ps ts ws j m s).1, ((walkR ps ts ws j m s).2.1 : Int), (walkR ps ts ws j m s).2.2) := by
  intro j
  induction j with
  | zero => intro m s _; exact Ev.of fun _ => rfl
  | succ j ih =>
    intro m s h
    simp only [walkL, walkR]
    refine Ev.bind (choose_ev hc h s) ?_
    by_cases hz : (wgt ps ts ws m).sum = 0
    · simp only [if_pos hz, if_pos (show (-1 : Int) < 0 by decide)]
      exact Ev.of fun _ => rfl
    · obtain ⟨n, e, hn, hm, _⟩ := h.chT_spec s hz
      have hnx := fun o => h.next (s := s) (o := o) hz
      simp only [if_neg hz]
      rw [e] at hnx
      simp only [e]
      simp only [if_neg (show ¬ (n : Int) < 0 by omega)]
      have hmx : m.length ≤ 9223372036854775807 := by rw [h.mark.len]; have := h.net.np; omega
      have hf := fire_ev nm ps ts m (n : Int) hmx
      rw [fire_may hc h hn hm] at hf
      refine Ev.bind hf ?_
      cases hro : refAfter (rd_T68 ts (n : Int)) m ps.length with
      | none => simp only [if_neg (show ¬ (3 : Int) = 0 by decide)]; exact Ev.of fun _ => rfl
      | some o =>
        have hW := hnx o hro
        simp only [if_true, if_pos (show (n : Int) < (ts.length : Int) ∧ o.length = ps.length from ⟨by omega, hW.mark.len⟩)]
        exact Ev.bind (ih o (stp s) hW) (Ev.of fun _ => rfl)

end Go.Proofs.Yteaimaafahpamaa.Hy
