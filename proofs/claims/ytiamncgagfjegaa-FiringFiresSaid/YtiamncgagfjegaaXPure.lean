/- By hand (evloop, chk_ref, fir_pure): a part of this seat's proofs. -/
import Derived.Test.YtiamncgagfjegaaXCheck
import Derived.Test.YtiamncgagfjegaaXFir
import Derived.Test.YtiamncgagfjegaaXRef
import Derived.Test.YtiamncgagfjegaaH12
namespace Go.Proofs.Ytiamncgagfjegaa.Hy
open Go.RowKit Go.Shelf Go.Proofs.YtiamncgagfjegaaW.PrintWords Go.Proofs.YtiamncgagfjegaaW.PrintLast Go.Proofs.YtiamncgagfjegaaW.PrintMore
set_option linter.unusedVariables false
set_option linter.unusedSimpArgs false
attribute [local go_sem] Oper.semAt_some
theorem Ev.congr {α : Type} {x y : Nat → Option α} {v : α} (h : Ev y v) (e : ∀ k, x k = y k) : Ev x v := by
  obtain ⟨K, h⟩ := h
  exact ⟨K, fun k hk => (e k).trans (h k hk)⟩
theorem Ev.val {α : Type} {v v' : α} (e : v = v') : Ev (fun _ => some v) v' := Ev.of fun _ => by rw [e]
/-- a loop that counts up to N -/
theorem Ev.loop {α : Type} (N : Nat) (g : Nat → Nat → Option α) (r : Nat → α) (step : ∀ i, i < N → Ev (fun k => g k (i + 1)) (r (i + 1)) → Ev (fun k => g k i) (r i)) (done : Ev (fun k => g k N) (r N)) : ∀ i, i ≤ N → Ev (fun k => g k i) (r i) := by
  intro i hi
  obtain ⟨m, rfl⟩ : ∃ m, N = i + m := ⟨N - i, by omega⟩
  clear hi
  induction m generalizing i with
  | zero => exact done
  | succ m ih =>
    refine step i (by omega) ?_
    have h := ih (i + 1) (by have e : i + 1 + m = i + (m + 1) := by omega
                             rw [e]; exact step) (by have e : i + 1 + m = i + (m + 1) := by omega
                                                     rw [e]; exact done)
    exact h
theorem any_nm (ns : List ByteArray) (s : ByteArray) : (ns.any fun y => y.toList == s.toList) = true ↔ ∃ y ∈ ns, y.toList = s.toList := by
  rw [List.any_eq_true]
  constructor
  · rintro ⟨y, hy, h⟩; exact ⟨y, hy, by simpa using h⟩
  · rintro ⟨y, hy, h⟩; exact ⟨y, hy, by simpa using h⟩

/-! ### the reference's check of a net, as lists -/
theorem bt_c (s : ByteArray) (i : Nat) (h : i < s.size) : bt s (i : Int) = (((s.data.toList.getD i 0).toNat : Nat) : Int) := by
  rw [bt, dif_pos (by simpa using h)]
  have hg : (s.data.toList.getD i 0) = s[i]'h := by
    rw [List.getD_eq_getElem?_getD, List.getElem?_eq_getElem (by simpa using h)]; rfl
  rw [hg]; rfl
theorem range_drop {n i : Nat} (h : i < n) : (List.range n).drop i = i :: (List.range n).drop (i + 1) := by
  rw [List.drop_eq_getElem_cons (by simpa using h), List.getElem_range]
theorem refName_ev (s : ByteArray) : Ev (fun k => petrinetref09_Name.f k s) (nameB s) := by
  have hlo : s.size < 1 ∨ 16 < s.size → Ev (fun k => petrinetref09_Name.j0 k s true) (nameB s) := fun h => by
    refine Ev.up ?_
    simp only [petrinetref09_Name.j0, if_true]
    refine Ev.val ?_
    symm
    rcases h with h | h
    · simp [nameB, show ¬ 1 ≤ s.size by omega]
    · simp [nameB, show ¬ s.size ≤ 16 by omega]
  simp only [petrinetref09_Name.f]
  by_cases h1 : (s.size : Int) < 1
  · simp only [if_pos h1]; exact hlo (.inl (by omega))
  · simp only [if_neg h1]
    by_cases h2 : (s.size : Int) > 16
    · simp only [decide_eq_true h2]; exact hlo (.inr (by omega))
    · simp only [decide_eq_false h2]
      refine Ev.up ?_
      simp only [petrinetref09_Name.j0, if_neg (show ¬ (false = true) by decide)]
      have hb : nameB s = ((List.range s.size).drop 0).all (okChar s) := by
        simp [nameB, show 1 ≤ s.size by omega, show s.size ≤ 16 by omega]
      rw [hb]
      refine Ev.loop s.size (fun k i => petrinetref09_Name.l0 k s (i : Int)) (fun i => ((List.range s.size).drop i).all (okChar s)) (fun i hi ih => ?_) ?_ 0 (Nat.zero_le _)
      · refine Ev.up ?_
        simp only [petrinetref09_Name.l0, if_pos (show (i : Int) < (s.size : Int) by omega), if_pos (show (0 : Int) ≤ (i : Int) by omega), w_succ (show i < 9223372036854775807 by omega), bt_c s i hi]
        rw [range_drop hi, List.all_cons]
        have hok : okChar s i = ((decide (97 ≤ (s.data.toList.getD i 0).toNat) && decide ((s.data.toList.getD i 0).toNat ≤ 122)) || decide ((s.data.toList.getD i 0).toNat = 95) || (decide (0 < i) && ((decide (48 ≤ (s.data.toList.getD i 0).toNat) && decide ((s.data.toList.getD i 0).toNat ≤ 57)) || decide ((s.data.toList.getD i 0).toNat = 46)))) := rfl
        generalize (s.data.toList.getD i 0).toNat = b at hok ⊢
        cases ho : okChar s i with
        | true =>
          rw [ho] at hok
          have hok2 : (97 ≤ b ∧ b ≤ 122) ∨ b = 95 ∨ (0 < i ∧ ((48 ≤ b ∧ b ≤ 57) ∨ b = 46)) := by
            have := hok.symm
            simp at this
            omega
          rw [Bool.true_and]
          refine Ev.congr ih (fun k => ?_)
          repeat' split
          all_goals first | rfl | omega
        | false =>
          rw [ho] at hok
          have hok2 : ¬ ((97 ≤ b ∧ b ≤ 122) ∨ b = 95 ∨ (0 < i ∧ ((48 ≤ b ∧ b ≤ 57) ∨ b = 46))) := by
            intro h
            have : (true : Bool) = false := by
              rw [hok]
              rcases h with h | h | h
              · simp [h.1, h.2]
              · simp [h]
              · obtain ⟨h1, h2 | h2⟩ := h <;> simp [h1, h2]
            cases this
          rw [Bool.false_and]
          refine Ev.congr (Ev.val rfl) (fun k => ?_)
          repeat' split
          all_goals first | rfl | omega
      · refine Ev.up ?_
        simp only [petrinetref09_Name.l0, if_neg (show ¬ (s.size : Int) < (s.size : Int) by omega)]
        rw [List.drop_of_length_le (by simp)]
        exact Ev.val rfl
theorem refArcs_ev (nm : ByteArray) (ps : List S55) (ts : List S58) (l : List S60) (hl : l.length ≤ 9223372036854775807) : Ev (fun k => petrinetref09_arcs.f k nm ps ts l) (chkArcs (ps.length : Int) none l) := by
  simp only [petrinetref09_arcs.f]
  have e0 : chkArcs (ps.length : Int) none l = chkArcs (ps.length : Int) (prevAt l 0) (l.drop 0) := by simp [prevAt]
  rw [e0]
  refine Ev.loop l.length (fun k i => petrinetref09_arcs.l0 k l (i : Int) nm ps ts) (fun i => chkArcs (ps.length : Int) (prevAt l i) (l.drop i)) (fun i hi ih => ?_) ?_ 0 (Nat.zero_le _)
  · obtain ⟨x, hx⟩ : ∃ x, x = rd_T60 l (i : Int) := ⟨_, rfl⟩
    have step : ∀ b : Bool, b = decide (∃ q, prevAt l i = some q ∧ x.f0 ≤ q) → ¬ (x.f0 < 0 ∨ (ps.length : Int) ≤ x.f0) → Ev (fun k => petrinetref09_arcs.j2 k l (i : Int) b nm ps ts) (chkArcs (ps.length : Int) (prevAt l i) (x :: l.drop (i + 1))) := by
      intro b hb hn
      rw [chkArcs, if_neg hn]
      refine Ev.up ?_
      simp only [petrinetref09_arcs.j2, ← hx, w_succ (show i < 9223372036854775807 by omega), if_pos (show (0 : Int) ≤ (i : Int) by omega), if_pos (show (i : Int) < (l.length : Int) by omega)]
      by_cases hq : ∃ q, prevAt l i = some q ∧ x.f0 ≤ q
      · rw [hb, decide_eq_true hq, if_pos hq]
        simp only [if_true]; exact Ev.of fun _ => rfl
      · rw [hb, decide_eq_false hq, if_neg hq]
        simp only [if_neg (show ¬ (false = true) by decide)]
        by_cases h1 : x.f1 < 1
        · simp only [if_pos h1]; rw [if_pos (.inl h1)]; exact Ev.of fun _ => rfl
        · by_cases h2 : x.f1 > 99
          · simp only [if_neg h1, if_pos h2]; rw [if_pos (.inr h2)]; exact Ev.of fun _ => rfl
          · simp only [if_neg h1, if_neg h2]
            rw [if_neg (by omega)]
            refine ih.cast ?_
            rw [prevAt, if_neg (by omega), Nat.add_sub_cancel, ← hx]
    rw [rdA_drop hi, ← hx]
    refine Ev.up ?_
    simp only [petrinetref09_arcs.l0, ← hx, if_pos (show (i : Int) < (l.length : Int) by omega), if_pos (show (0 : Int) ≤ (i : Int) by omega)]
    have bad : (x.f0 < 0 ∨ (ps.length : Int) ≤ x.f0) → Ev (fun k => petrinetref09_arcs.j1 k l (i : Int) true nm ps ts) (chkArcs (ps.length : Int) (prevAt l i) (x :: l.drop (i + 1))) := fun h => by
      rw [chkArcs, if_pos h]
      exact Ev.up (Ev.of fun _ => by simp [petrinetref09_arcs.j1])
    by_cases h1 : x.f0 < 0
    · simp only [if_pos h1]; exact bad (.inl h1)
    · simp only [if_neg h1]
      by_cases h2 : x.f0 ≥ (ps.length : Int)
      · simp only [decide_eq_true h2]; exact bad (.inr h2)
      · simp only [decide_eq_false h2]
        refine Ev.up ?_
        simp only [petrinetref09_arcs.j1, if_neg (show ¬ (false = true) by decide)]
        by_cases h3 : (i : Int) > 0
        · have e : wrap64 ((i : Int) - 1) = ((i - 1 : Nat) : Int) := by rw [w_id (by omega) (by omega)]; omega
          simp only [if_pos h3, e, if_pos (show (0 : Int) ≤ (i : Int) by omega), if_pos (show (i : Int) < (l.length : Int) by omega), if_pos (show (0 : Int) ≤ ((i - 1 : Nat) : Int) by omega), if_pos (show ((i - 1 : Nat) : Int) < (l.length : Int) by omega), ← hx]
          refine step _ ?_ (by omega)
          rw [prevAt, if_neg (by omega)]
          simp
        · simp only [if_neg h3]
          refine step _ ?_ (by omega)
          rw [prevAt, if_pos (by omega)]
          simp
  · refine Ev.up ?_
    simp only [petrinetref09_arcs.l0, if_neg (show ¬ (l.length : Int) < (l.length : Int) by omega)]
    rw [List.drop_of_length_le (by omega)]
    exact Ev.of fun _ => rfl
def nmP (ps : List S55) : List ByteArray := ps.map (·.f0)
def nmT (ts : List S58) : List ByteArray := ts.map (·.f0)
theorem refPlace_ev (nm : ByteArray) (ps : List S55) (ts : List S58) (i : Nat) (hi : i < ps.length) (hl : ps.length ≤ 9223372036854775807) : Ev (fun k => petrinetref09_place.f k nm ps ts (i : Int)) (plE (nmP (ps.take i)) (rd_T55 ps (i : Int))) := by
  obtain ⟨p, hp⟩ : ∃ p, p = rd_T55 ps (i : Int) := ⟨_, rfl⟩
  simp only [petrinetref09_place.f, if_pos (show (0 : Int) ≤ (i : Int) by omega), if_pos (show (i : Int) < (ps.length : Int) by omega), ← hp]
  refine Ev.bind (refName_ev p.f0) ?_
  cases hn : nameB p.f0 with
  | false =>
    simp only [if_neg (show ¬ (false = true) by decide)]
    refine Ev.val ?_
    simp [plE, addC, hn]
  | true =>
    simp only [if_true]
    have e0 : plE (nmP (ps.take i)) p = if ((nmP (ps.take i)).drop 0).any (fun y => y.toList == p.f0.toList) = true then 6 else chkPlace p := by
      simp only [plE, addC, hn, if_true, List.drop_zero]
      cases (nmP (ps.take i)).any (fun y => y.toList == p.f0.toList) <;> simp
    rw [e0]
    refine Ev.loop i (fun k j => petrinetref09_place.l0 k (i : Int) (j : Int) nm ps ts p.f0 p.f1 p.f2) (fun j => if ((nmP (ps.take i)).drop j).any (fun y => y.toList == p.f0.toList) = true then 6 else chkPlace p) (fun j hj ih => ?_) ?_ 0 (Nat.zero_le _)
    · have hd : (nmP (ps.take i)).drop j = (rd_T55 ps (j : Int)).f0 :: (nmP (ps.take i)).drop (j + 1) := by
        have hjl : j < (nmP (ps.take i)).length := by simp [nmP]; omega
        rw [List.drop_eq_getElem_cons hjl]
        congr 1
        simp only [nmP, List.getElem_map, List.getElem_take, rd_T55, Int.toNat_natCast]
        rw [List.getD_eq_getElem?_getD, List.getElem?_eq_getElem (by omega)]; rfl
      refine Ev.up ?_
      simp only [petrinetref09_place.l0, if_pos (show (j : Int) < (i : Int) by omega), if_pos (show (0 : Int) ≤ (j : Int) by omega), if_pos (show (j : Int) < (ps.length : Int) by omega), w_succ (show j < 9223372036854775807 by omega)]
      rw [hd, List.any_cons]
      by_cases h : (rd_T55 ps (j : Int)).f0.toList = p.f0.toList
      · simp only [if_pos h]
        rw [if_pos (by simp [h])]; exact Ev.of fun _ => rfl
      · simp only [if_neg h]
        have : ((rd_T55 ps (j : Int)).f0.toList == p.f0.toList) = false := by simpa using h
        rw [this, Bool.false_or]; exact ih
    · refine Ev.up ?_
      simp only [petrinetref09_place.l0, if_neg (show ¬ (i : Int) < (i : Int) by omega)]
      rw [List.drop_of_length_le (by simp [nmP]; omega)]
      simp only [List.any_nil, if_neg (show ¬ (false = true) by decide)]
      have one : p.f2 < 0 ∨ 1048576 < p.f2 → Ev (fun k => petrinetref09_place.j1 k true p.f0 p.f1 p.f2) (chkPlace p) := fun h => by
        rw [chkPlace, if_pos h]; exact Ev.up (Ev.of fun _ => by simp [petrinetref09_place.j1])
      by_cases h1 : p.f2 < 0
      · simp only [if_pos h1]; exact one (.inl h1)
      · simp only [if_neg h1]
        by_cases h2 : p.f2 > 1048576
        · simp only [decide_eq_true h2]; exact one (.inr h2)
        · simp only [decide_eq_false h2]
          refine Ev.up ?_
          simp only [petrinetref09_place.j1, if_neg (show ¬ (false = true) by decide)]
          rw [chkPlace, if_neg (show ¬ (p.f2 < 0 ∨ 1048576 < p.f2) by omega)]
          by_cases h3 : p.f1 < 0
          · simp only [if_pos h3]; rw [if_pos (.inl h3)]; exact Ev.of fun _ => rfl
          · simp only [if_neg h3]
            by_cases h4 : p.f1 > 1048576
            · simp only [if_pos h4]; rw [if_pos (.inr (.inl h4))]; exact Ev.of fun _ => rfl
            · simp only [if_neg h4]
              by_cases h5 : p.f2 = 0
              · simp only [if_pos h5]; rw [if_neg (by omega)]; exact Ev.of fun _ => rfl
              · simp only [if_neg h5]
                by_cases h6 : p.f1 > p.f2
                · simp only [if_pos h6]; rw [if_pos (by omega)]; exact Ev.of fun _ => rfl
                · simp only [if_neg h6]; rw [if_neg (by omega)]; exact Ev.of fun _ => rfl
theorem any_drop_cons {ns : List ByteArray} {j : Nat} (hj : j < ns.length) (s : ByteArray) : (ns.drop j).any (fun y => y.toList == s.toList) = ((ns.getD j ByteArray.empty).toList == s.toList || (ns.drop (j + 1)).any (fun y => y.toList == s.toList)) := by
  rw [List.drop_eq_getElem_cons hj, List.any_cons, List.getD_eq_getElem?_getD, List.getElem?_eq_getElem hj]; rfl
theorem nmP_get (ps : List S55) (j : Nat) (hj : j < ps.length) : (nmP ps).getD j ByteArray.empty = (rd_T55 ps (j : Int)).f0 := by
  rw [List.getD_eq_getElem?_getD, nmP, List.getElem?_map, List.getElem?_eq_getElem hj, rd_T55, Int.toNat_natCast, List.getD_eq_getElem?_getD, List.getElem?_eq_getElem hj]; rfl
theorem nmT_get (ts : List S58) (i j : Nat) (hj : j < ts.length) (hi : j < i) : (nmT (ts.take i)).getD j ByteArray.empty = (rd_T58 ts (j : Int)).f0 := by
  rw [List.getD_eq_getElem?_getD, nmT, List.getElem?_map, List.getElem?_take, if_pos hi, List.getElem?_eq_getElem hj, rd_T58, Int.toNat_natCast, List.getD_eq_getElem?_getD, List.getElem?_eq_getElem hj]; rfl
theorem refTrans_ev (nm : ByteArray) (ps : List S55) (ts : List S58) (i : Nat) (hi : i < ts.length) (hl : ps.length ≤ 9223372036854775807) (hl2 : ts.length ≤ 9223372036854775807) (h1 : (rd_T58 ts (i : Int)).f1.length ≤ 9223372036854775807) (h2 : (rd_T58 ts (i : Int)).f2.length ≤ 9223372036854775807) (h3 : (rd_T58 ts (i : Int)).f3.length ≤ 9223372036854775807) :
    Ev (fun k => petrinetref09_trans.f k nm ps ts (i : Int)) (trE (ps.length : Int) (nmP ps ++ nmT (ts.take i)) (rd_T58 ts (i : Int))) := by
  obtain ⟨t, ht⟩ : ∃ t, t = rd_T58 ts (i : Int) := ⟨_, rfl⟩
  rw [← ht] at h1 h2 h3
  simp only [petrinetref09_trans.f, if_pos (show (0 : Int) ≤ (i : Int) by omega), if_pos (show (i : Int) < (ts.length : Int) by omega), ← ht]
  refine Ev.bind (refName_ev t.f0) ?_
  cases hn : nameB t.f0 with
  | false =>
    simp only [if_neg (show ¬ (false = true) by decide)]
    refine Ev.val ?_
    simp [trE, addC, hn]
  | true =>
    simp only [if_true]
    have e0 : trE (ps.length : Int) (nmP ps ++ nmT (ts.take i)) t = if ((nmP ps).drop 0).any (fun y => y.toList == t.f0.toList) = true then 6 else if ((nmT (ts.take i)).drop 0).any (fun y => y.toList == t.f0.toList) = true then 6 else chkTrans (ps.length : Int) t := by
      simp only [trE, addC, hn, if_true, List.drop_zero, List.any_append]
      cases (nmP ps).any (fun y => y.toList == t.f0.toList) <;> cases (nmT (ts.take i)).any (fun y => y.toList == t.f0.toList) <;> simp
    rw [e0]
    have lenT : (nmT (ts.take i)).length = i := by simp [nmT]; omega
    refine Ev.loop ps.length (fun k j => petrinetref09_trans.l0 k (i : Int) (j : Int) nm ps ts t.f0 t.f1 t.f2 t.f3 t.f4) (fun j => if ((nmP ps).drop j).any (fun y => y.toList == t.f0.toList) = true then 6 else if ((nmT (ts.take i)).drop 0).any (fun y => y.toList == t.f0.toList) = true then 6 else chkTrans (ps.length : Int) t) (fun j hj ih => ?_) ?_ 0 (Nat.zero_le _)
    · refine Ev.up ?_
      simp only [petrinetref09_trans.l0, if_pos (show (j : Int) < (ps.length : Int) by omega), if_pos (show (0 : Int) ≤ (j : Int) by omega), w_succ (show j < 9223372036854775807 by omega)]
      rw [any_drop_cons (by simpa [nmP] using hj), nmP_get ps j hj]
      by_cases h : (rd_T55 ps (j : Int)).f0.toList = t.f0.toList
      · simp only [if_pos h]
        rw [if_pos (by simp [h])]; exact Ev.of fun _ => rfl
      · simp only [if_neg h]
        have : ((rd_T55 ps (j : Int)).f0.toList == t.f0.toList) = false := by simpa using h
        rw [this, Bool.false_or]; exact ih
    · refine Ev.up ?_
      simp only [petrinetref09_trans.l0, if_neg (show ¬ (ps.length : Int) < (ps.length : Int) by omega)]
      rw [List.drop_of_length_le (by simp [nmP])]
      simp only [List.any_nil, if_neg (show ¬ (false = true) by decide)]
      refine Ev.loop i (fun k j => petrinetref09_trans.l1 k (i : Int) (j : Int) nm ps ts t.f0 t.f1 t.f2 t.f3 t.f4) (fun j => if ((nmT (ts.take i)).drop j).any (fun y => y.toList == t.f0.toList) = true then 6 else chkTrans (ps.length : Int) t) (fun j hj ih => ?_) ?_ 0 (Nat.zero_le _)
      · refine Ev.up ?_
        simp only [petrinetref09_trans.l1, if_pos (show (j : Int) < (i : Int) by omega), if_pos (show (0 : Int) ≤ (j : Int) by omega), if_pos (show (j : Int) < (ts.length : Int) by omega), w_succ (show j < 9223372036854775807 by omega)]
        rw [any_drop_cons (by omega), nmT_get ts i j (by omega) hj]
        by_cases h : (rd_T58 ts (j : Int)).f0.toList = t.f0.toList
        · simp only [if_pos h]
          rw [if_pos (by simp [h])]; exact Ev.of fun _ => rfl
        · simp only [if_neg h]
          have : ((rd_T58 ts (j : Int)).f0.toList == t.f0.toList) = false := by simpa using h
          rw [this, Bool.false_or]; exact ih
      · refine Ev.up ?_
        simp only [petrinetref09_trans.l1, if_neg (show ¬ (i : Int) < (i : Int) by omega)]
        rw [List.drop_of_length_le (by omega)]
        simp only [List.any_nil, if_neg (show ¬ (false = true) by decide)]
        have one : t.f4 < 0 ∨ 9 < t.f4 → Ev (fun k => petrinetref09_trans.j2 k true nm ps ts t.f0 t.f1 t.f2 t.f3 t.f4) (chkTrans (ps.length : Int) t) := fun h => by
          rw [chkTrans, if_pos h]; exact Ev.up (Ev.of fun _ => by simp [petrinetref09_trans.j2])
        by_cases c1 : t.f4 < 0
        · simp only [if_pos c1]; exact one (.inl c1)
        · simp only [if_neg c1]
          by_cases c2 : t.f4 > 9
          · simp only [decide_eq_true c2]; exact one (.inr c2)
          · simp only [decide_eq_false c2]
            refine Ev.up ?_
            simp only [petrinetref09_trans.j2, if_neg (show ¬ (false = true) by decide)]
            rw [chkTrans, if_neg (by omega)]
            refine Ev.bind (refArcs_ev nm ps ts t.f1 h1) ?_
            by_cases e1 : chkArcs (ps.length : Int) none t.f1 = 0
            · simp only [if_pos e1]
              rw [if_neg (by simp [e1])]
              refine Ev.bind (refArcs_ev nm ps ts t.f2 h2) ?_
              by_cases e2 : chkArcs (ps.length : Int) none t.f2 = 0
              · simp only [if_pos e2]
                rw [if_neg (by simp [e2])]
                refine Ev.bind (refArcs_ev nm ps ts t.f3 h3) ?_
                exact Ev.of fun _ => rfl
              · simp only [if_neg e2]
                rw [if_pos e2]; exact Ev.of fun _ => rfl
            · simp only [if_neg e1]
              rw [if_pos e1]; exact Ev.of fun _ => rfl
theorem plE_zero {names : List ByteArray} {p : S55} (h : plE names p = 0) : addN names p.f0 = names ++ [p.f0] := by
  rw [plE] at h
  by_cases hc : addC names p.f0 = 0
  · rw [addN, if_pos hc]
  · rw [if_neg hc] at h; exact absurd h hc
theorem trE_zero {P : Int} {names : List ByteArray} {t : S58} (h : trE P names t = 0) : addN names t.f0 = names ++ [t.f0] := by
  rw [trE] at h
  by_cases hc : addC names t.f0 = 0
  · rw [addN, if_pos hc]
  · rw [if_neg hc] at h; exact absurd h hc
theorem take_rdP {l : List S55} {j : Nat} (h : j < l.length) : l.take (j + 1) = l.take j ++ [rd_T55 l (j : Int)] := by
  rw [List.take_succ_eq_append_getElem h, rd_T55, Int.toNat_natCast, List.getD_eq_getElem?_getD, List.getElem?_eq_getElem h]; rfl
theorem take_rdT' {l : List S58} {j : Nat} (h : j < l.length) : l.take (j + 1) = l.take j ++ [rd_T58 l (j : Int)] := by
  rw [List.take_succ_eq_append_getElem h, rd_T58, Int.toNat_natCast, List.getD_eq_getElem?_getD, List.getElem?_eq_getElem h]; rfl
/-- the lists of a net's transitions are no longer than any slice -/
def lenOk (ts : List S58) : Prop := ∀ t ∈ ts, t.f1.length ≤ 9223372036854775807 ∧ t.f2.length ≤ 9223372036854775807 ∧ t.f3.length ≤ 9223372036854775807
theorem rdT_mem {ts : List S58} {i : Nat} (h : i < ts.length) : rd_T58 ts (i : Int) ∈ ts := by
  rw [rd_T58, Int.toNat_natCast, List.getD_eq_getElem?_getD, List.getElem?_eq_getElem h]; exact List.getElem_mem h
theorem rdP_mem {ps : List S55} {i : Nat} (h : i < ps.length) : rd_T55 ps (i : Int) ∈ ps := by
  rw [rd_T55, Int.toNat_natCast, List.getD_eq_getElem?_getD, List.getElem?_eq_getElem h]; exact List.getElem_mem h
theorem refCheck_ev (nm : ByteArray) (ps : List S55) (ts : List S58) (hl : ps.length ≤ 9223372036854775807) (hl2 : ts.length ≤ 9223372036854775807) (hk : lenOk ts) : Ev (fun k => petrinetref09_Check.f k nm ps ts) (chkNet nm ps ts) := by
  simp only [petrinetref09_Check.f]
  refine Ev.bind (refName_ev nm) ?_
  cases hn : nameB nm with
  | false =>
    simp only [if_neg (show ¬ (false = true) by decide)]
    refine Ev.val ?_
    rw [chkNet, if_pos hn]
  | true =>
    simp only [if_true]
    have bad : ps.length < 1 ∨ 24 < ps.length ∨ 24 < ts.length → Ev (fun k => petrinetref09_Check.j0 k true nm ps ts) (chkNet nm ps ts) := fun h => by
      rw [chkNet, if_neg (by simp [hn]), if_pos h]
      exact Ev.up (Ev.of fun _ => by simp [petrinetref09_Check.j0])
    by_cases c1 : (ps.length : Int) < 1
    · simp only [if_pos c1]; exact bad (.inl (by omega))
    · simp only [if_neg c1]
      by_cases c2 : (ps.length : Int) > 24
      · simp only [if_pos c2]; exact bad (.inr (.inl (by omega)))
      · simp only [if_neg c2]
        by_cases c3 : (ts.length : Int) > 24
        · simp only [decide_eq_true c3]; exact bad (.inr (.inr (by omega)))
        · simp only [decide_eq_false c3]
          refine Ev.up ?_
          simp only [petrinetref09_Check.j0, if_neg (show ¬ (false = true) by decide)]
          rw [chkNet, if_neg (by simp [hn]), if_neg (by omega)]
          refine Ev.loop ps.length (fun k i => petrinetref09_Check.l0 k (i : Int) nm ps ts) (fun i => match goPl i (nmP (ps.take i)) (ps.drop i) with | .inl r => r | .inr names => goTr ps.length 0 names ts) (fun i hi ih => ?_) ?_ 0 (Nat.zero_le _)
          · refine Ev.up ?_
            simp only [petrinetref09_Check.l0, if_pos (show (i : Int) < (ps.length : Int) by omega), w_succ (show i < 9223372036854775807 by omega)]
            refine Ev.bind (refPlace_ev nm ps ts i hi hl) ?_
            rw [rdP_drop hi, goPl]
            by_cases h : plE (nmP (ps.take i)) (rd_T55 ps (i : Int)) = 0
            · simp only [if_pos h]
              rw [plE_zero h]
              have : nmP (ps.take i) ++ [(rd_T55 ps (i : Int)).f0] = nmP (ps.take (i + 1)) := by rw [take_rdP hi]; simp [nmP]
              rw [this]; exact ih
            · simp only [if_neg h]; exact Ev.of fun _ => rfl
          · refine Ev.up ?_
            simp only [petrinetref09_Check.l0, if_neg (show ¬ (ps.length : Int) < (ps.length : Int) by omega)]
            rw [List.drop_length, goPl, List.take_length]
            have e0 : goTr (ps.length : Int) 0 (nmP ps) ts = goTr (ps.length : Int) 0 (nmP ps ++ nmT (ts.take 0)) (ts.drop 0) := by simp [nmT]
            show Ev _ (goTr (ps.length : Int) 0 (nmP ps) ts)
            rw [e0]
            refine Ev.loop ts.length (fun k i => petrinetref09_Check.l1 k (i : Int) nm ps ts) (fun i => goTr (ps.length : Int) i (nmP ps ++ nmT (ts.take i)) (ts.drop i)) (fun i hi ih => ?_) ?_ 0 (Nat.zero_le _)
            · obtain ⟨k1, k2, k3⟩ := hk _ (rdT_mem hi)
              refine Ev.up ?_
              simp only [petrinetref09_Check.l1, if_pos (show (i : Int) < (ts.length : Int) by omega), w_succ (show i < 9223372036854775807 by omega)]
              refine Ev.bind (refTrans_ev nm ps ts i hi hl hl2 k1 k2 k3) ?_
              rw [rdT_drop hi, goTr]
              by_cases h : trE (ps.length : Int) (nmP ps ++ nmT (ts.take i)) (rd_T58 ts (i : Int)) = 0
              · simp only [if_pos h]
                rw [trE_zero h]
                have : nmP ps ++ nmT (ts.take i) ++ [(rd_T58 ts (i : Int)).f0] = nmP ps ++ nmT (ts.take (i + 1)) := by rw [take_rdT' hi]; simp [nmT]
                rw [this]; exact ih
              · simp only [if_neg h]
                refine Ev.val ?_
                rw [w_id (by omega) (by omega)]
            · refine Ev.up ?_
              simp only [petrinetref09_Check.l1, if_neg (show ¬ (ts.length : Int) < (ts.length : Int) by omega)]
              rw [List.drop_length, goTr]; exact Ev.of fun _ => rfl

/-! ### valid nets, as lists -/
structure ArcsOk (P : Int) (l : List S60) : Prop where
  bd : ∀ a ∈ l, 0 ≤ a.f0 ∧ a.f0 < P ∧ 1 ≤ a.f1 ∧ a.f1 ≤ 99
  asc : l.Pairwise fun a b => a.f0 < b.f0
theorem chkArcs_ok (P : Int) : ∀ (l : List S60) (prev : Option Int), chkArcs P prev l = 0 → (∀ q, prev = some q → ∀ a ∈ l, q < a.f0) ∧ ArcsOk P l := by
  intro l
  induction l with
  | nil => intro prev _; exact ⟨fun _ _ a ha => by simp at ha, ⟨by simp, List.Pairwise.nil⟩⟩
  | cons a l ih =>
    intro prev h
    rw [chkArcs] at h
    by_cases h1 : a.f0 < 0 ∨ P ≤ a.f0
    · rw [if_pos h1] at h; omega
    · rw [if_neg h1] at h
      by_cases h2 : ∃ q, prev = some q ∧ a.f0 ≤ q
      · rw [if_pos h2] at h; omega
      · rw [if_neg h2] at h
        by_cases h3 : a.f1 < 1 ∨ 99 < a.f1
        · rw [if_pos h3] at h; omega
        · rw [if_neg h3] at h
          obtain ⟨i1, i2⟩ := ih _ h
          have i3 := i1 _ rfl
          have hq : ∀ q, prev = some q → q < a.f0 := fun q hq => by
            by_cases h4 : a.f0 ≤ q
            · exact absurd ⟨q, hq, h4⟩ h2
            · omega
          refine ⟨fun q hp b hb => ?_, ⟨fun b hb => ?_, List.Pairwise.cons i3 i2.asc⟩⟩
          · rcases List.mem_cons.1 hb with rfl | hb
            · exact hq q hp
            · have := i3 b hb; have := hq q hp; omega
          · rcases List.mem_cons.1 hb with rfl | hb
            · omega
            · exact i2.bd b hb
structure TransOk (P : Int) (t : S58) : Prop where
  pre : ArcsOk P t.f1
  post : ArcsOk P t.f2
  inh : ArcsOk P t.f3
  prio : 0 ≤ t.f4 ∧ t.f4 ≤ 9
theorem chkTrans_ok {P : Int} {t : S58} (h : chkTrans P t = 0) : TransOk P t := by
  rw [chkTrans] at h
  by_cases h1 : t.f4 < 0 ∨ 9 < t.f4
  · rw [if_pos h1] at h; omega
  · rw [if_neg h1] at h
    by_cases h2 : chkArcs P none t.f1 = 0
    · rw [if_neg (by simp [h2])] at h
      by_cases h3 : chkArcs P none t.f2 = 0
      · rw [if_neg (by simp [h3])] at h
        exact ⟨(chkArcs_ok P _ _ h2).2, (chkArcs_ok P _ _ h3).2, (chkArcs_ok P _ _ h).2, by omega, by omega⟩
      · rw [if_pos h3] at h; exact absurd h h3
    · rw [if_pos h2] at h; exact absurd h h2
structure PlaceOk (p : S55) : Prop where
  cap : 0 ≤ p.f2 ∧ p.f2 ≤ 1048576
  init : 0 ≤ p.f1 ∧ p.f1 ≤ 1048576
  fit : p.f2 ≠ 0 → p.f1 ≤ p.f2
theorem chkPlace_ok {p : S55} (h : chkPlace p = 0) : PlaceOk p := by
  rw [chkPlace] at h
  by_cases h1 : p.f2 < 0 ∨ 1048576 < p.f2
  · rw [if_pos h1] at h; omega
  · rw [if_neg h1] at h
    by_cases h2 : p.f1 < 0 ∨ 1048576 < p.f1 ∨ (p.f2 ≠ 0 ∧ p.f2 < p.f1)
    · rw [if_pos h2] at h; omega
    · exact ⟨by omega, by omega, by omega⟩
structure NetOk (ps : List S55) (ts : List S58) : Prop where
  np : 1 ≤ ps.length ∧ ps.length ≤ 24
  nt : ts.length ≤ 24
  pl : ∀ p ∈ ps, PlaceOk p
  tr : ∀ t ∈ ts, TransOk (ps.length : Int) t
  dis : (nmP ps ++ nmT ts).Pairwise fun a b => a.toList ≠ b.toList
  nms : ∀ s ∈ nmP ps ++ nmT ts, nameB s = true
theorem addC_zero {names : List ByteArray} {s : ByteArray} (h : addC names s = 0) : nameB s = true ∧ ∀ y ∈ names, y.toList ≠ s.toList := by
  rw [addC] at h
  cases hn : nameB s with
  | false => rw [hn] at h; simp at h
  | true =>
    rw [hn] at h
    refine ⟨rfl, fun y hy he => ?_⟩
    rw [if_pos rfl, if_pos ((any_nm names s).2 ⟨y, hy, he⟩)] at h
    omega
theorem plE_ok {names : List ByteArray} {p : S55} (h : plE names p = 0) : addC names p.f0 = 0 ∧ chkPlace p = 0 := by
  rw [plE] at h
  by_cases hc : addC names p.f0 = 0
  · rw [if_pos hc] at h; exact ⟨hc, h⟩
  · rw [if_neg hc] at h; exact absurd h hc
theorem trE_ok {P : Int} {names : List ByteArray} {t : S58} (h : trE P names t = 0) : addC names t.f0 = 0 ∧ chkTrans P t = 0 := by
  rw [trE] at h
  by_cases hc : addC names t.f0 = 0
  · rw [if_pos hc] at h; exact ⟨hc, h⟩
  · rw [if_neg hc] at h; exact absurd h hc
def NmOk (names : List ByteArray) : Prop := names.Pairwise (fun a b => a.toList ≠ b.toList) ∧ ∀ s ∈ names, nameB s = true
theorem NmOk.snoc {names : List ByteArray} {s : ByteArray} (h : NmOk names) (hc : addC names s = 0) : NmOk (names ++ [s]) := by
  obtain ⟨h1, h2⟩ := addC_zero hc
  refine ⟨List.pairwise_append.2 ⟨h.1, List.pairwise_singleton _ _, fun a ha b hb => ?_⟩, fun y hy => ?_⟩
  · rw [List.mem_singleton.1 hb]; exact h2 a ha
  · rcases List.mem_append.1 hy with hy | hy
    · exact h.2 y hy
    · rw [List.mem_singleton.1 hy]; exact h1
theorem goPl_ok : ∀ (ps : List S55) (i : Nat) (names : List ByteArray), NmOk names → (∀ r, goPl i names ps = .inl r → r.1 ≠ 0) ∧ (∀ ns, goPl i names ps = .inr ns → ns = names ++ nmP ps ∧ NmOk ns ∧ ∀ p ∈ ps, PlaceOk p) := by
  intro ps
  induction ps with
  | nil => intro i names hN; exact ⟨fun r h => by simp [goPl] at h, fun ns h => by simp only [goPl, Sum.inr.injEq] at h; subst h; exact ⟨by simp [nmP], hN, by simp⟩⟩
  | cons p ps ih =>
    intro i names hN
    rw [goPl]
    by_cases h : plE names p = 0
    · rw [if_pos h, plE_zero h]
      obtain ⟨i1, i2⟩ := ih (i + 1) (names ++ [p.f0]) (hN.snoc (plE_ok h).1)
      refine ⟨i1, fun ns hns => ?_⟩
      obtain ⟨e1, e2, e3⟩ := i2 ns hns
      refine ⟨by rw [e1]; simp [nmP], e2, fun q hq => ?_⟩
      rcases List.mem_cons.1 hq with rfl | hq
      · exact chkPlace_ok (plE_ok h).2
      · exact e3 q hq
    · rw [if_neg h]
      exact ⟨fun r hr => by injection hr with hr; rw [← hr]; exact h, fun ns hns => by cases hns⟩
theorem goTr_ok (P : Int) : ∀ (ts : List S58) (i : Nat) (names : List ByteArray), NmOk names → (goTr P i names ts).1 = 0 → goTr P i names ts = (0, 0) ∧ NmOk (names ++ nmT ts) ∧ ∀ t ∈ ts, TransOk P t := by
  intro ts
  induction ts with
  | nil => intro i names hN _; exact ⟨by simp [goTr], by simpa [nmT] using hN, by simp⟩
  | cons t ts ih =>
    intro i names hN
    rw [goTr]
    by_cases h : trE P names t = 0
    · rw [if_pos h, trE_zero h]
      intro h0
      obtain ⟨e0, e2, e3⟩ := ih (i + 1) (names ++ [t.f0]) (hN.snoc (trE_ok h).1) h0
      refine ⟨e0, by simpa [nmT] using e2, fun q hq => ?_⟩
      rcases List.mem_cons.1 hq with rfl | hq
      · exact chkTrans_ok (trE_ok h).2
      · exact e3 q hq
    · rw [if_neg h]; intro h0; exact absurd h0 h
theorem chkNet_ok {nm : ByteArray} {ps : List S55} {ts : List S58} (h : (chkNet nm ps ts).1 = 0) : chkNet nm ps ts = (0, 0) ∧ NetOk ps ts := by
  rw [chkNet] at h ⊢
  by_cases h1 : nameB nm = false
  · rw [if_pos h1] at h; simp at h
  · rw [if_neg h1] at h ⊢
    by_cases h2 : ps.length < 1 ∨ 24 < ps.length ∨ 24 < ts.length
    · rw [if_pos h2] at h; simp at h
    · rw [if_neg h2] at h ⊢
      obtain ⟨g1, g2⟩ := goPl_ok ps 0 [] ⟨List.Pairwise.nil, by simp⟩
      cases hg : goPl 0 [] ps with
      | inl r => rw [hg] at h; exact absurd h (g1 r hg)
      | inr ns =>
        rw [hg] at h
        obtain ⟨e1, e2, e3⟩ := g2 ns hg
        obtain ⟨f0, f1, f2⟩ := goTr_ok _ ts 0 ns e2 h
        rw [e1, List.nil_append] at f1
        exact ⟨f0, ⟨by omega, by omega, e3, f2, f1.1, f1.2⟩⟩
/-! ### weights, and the change of a marking -/
theorem wt_mem {P : Int} {l : List S60} (h : ArcsOk P l) {a : S60} (ha : a ∈ l) : wt l a.f0 = a.f1 := by
  induction l with
  | nil => simp at ha
  | cons b l ih =>
    have ha2 := (List.pairwise_cons.1 h.asc).1
    rw [wt]
    rcases List.mem_cons.1 ha with rfl | hm
    · rw [if_pos rfl]
    · rw [if_neg (by have := ha2 a hm; omega)]
      exact ih ⟨fun c hc => h.bd c (List.mem_cons_of_mem _ hc), (List.pairwise_cons.1 h.asc).2⟩ hm
theorem wt_none {l : List S60} {p : Int} (h : ∀ a ∈ l, a.f0 ≠ p) : wt l p = 0 := by
  induction l with
  | nil => rfl
  | cons b l ih =>
    rw [wt, if_neg (h b List.mem_cons_self)]
    exact ih fun a ha => h a (List.mem_cons_of_mem _ ha)
theorem wt_cases {P : Int} {l : List S60} (h : ArcsOk P l) (p : Int) : (∃ a ∈ l, a.f0 = p ∧ wt l p = a.f1) ∨ wt l p = 0 := by
  by_cases hp : ∃ a ∈ l, a.f0 = p
  · obtain ⟨a, ha, rfl⟩ := hp; exact .inl ⟨a, ha, rfl, wt_mem h ha⟩
  · exact .inr (wt_none fun a ha he => hp ⟨a, ha, he⟩)
theorem wt_bd {P : Int} {l : List S60} (h : ArcsOk P l) (p : Int) : 0 ≤ wt l p ∧ wt l p ≤ 99 := by
  rcases wt_cases h p with ⟨a, ha, _, e⟩ | e
  · have := h.bd a ha; omega
  · omega
theorem rd_set {m : List Int} {i p : Int} (v : Int) (hi : 0 ≤ i) (hil : i < (m.length : Int)) (hp : 0 ≤ p) : rd (m.set i.toNat v) p = if p = i then v else rd m p := by
  obtain ⟨a, rfl⟩ := Int.eq_ofNat_of_zero_le hi
  obtain ⟨b, rfl⟩ := Int.eq_ofNat_of_zero_le hp
  simp only [rd, Int.toNat_natCast, List.getD_eq_getElem?_getD, List.getElem?_set]
  by_cases h : a = b
  · subst h; rw [if_pos rfl, if_pos (by omega), if_pos rfl]; rfl
  · rw [if_neg h, if_neg (by omega)]
theorem rd_chgSub {P : Int} : ∀ (l : List S60) (m : List Int), ArcsOk P l → P ≤ (m.length : Int) → (∀ a ∈ l, -1000000000000 ≤ rd m a.f0 ∧ rd m a.f0 ≤ 1000000000000) → ∀ p : Int, 0 ≤ p → rd (chgSub l m) p = rd m p - wt l p := by
  intro l
  induction l with
  | nil => intro m _ _ _ p _; simp [chgSub, wt]
  | cons a l ih =>
    intro m h hP hb p hp
    obtain ⟨b1, b2, b3, b4⟩ := h.bd a List.mem_cons_self
    have hx := hb a List.mem_cons_self
    have hasc := (List.pairwise_cons.1 h.asc)
    have hl : ArcsOk P l := ⟨fun c hc => h.bd c (List.mem_cons_of_mem _ hc), hasc.2⟩
    show rd (chgSub l (m.set a.f0.toNat (wrap64 (rd m a.f0 - a.f1)))) p = _
    rw [ih _ hl (by simpa using hP) (fun c hc => by
      have := hasc.1 c hc
      have h2 := hl.bd c hc
      rw [rd_set _ b1 (by omega) (by omega), if_neg (by omega)]
      exact hb c (List.mem_cons_of_mem _ hc)) p hp, rd_set _ b1 (by omega) hp, wt, w_id (by omega) (by omega)]
    by_cases he : p = a.f0
    · rw [if_pos he, if_pos he.symm, he, wt_none (fun c hc => by have := hasc.1 c hc; omega)]; omega
    · rw [if_neg he, if_neg (fun e => he e.symm)]
theorem rd_chgAdd {P : Int} : ∀ (l : List S60) (m : List Int), ArcsOk P l → P ≤ (m.length : Int) → (∀ a ∈ l, -1000000000000 ≤ rd m a.f0 ∧ rd m a.f0 ≤ 1000000000000) → ∀ p : Int, 0 ≤ p → rd (chgAdd l m) p = rd m p + wt l p := by
  intro l
  induction l with
  | nil => intro m _ _ _ p _; simp [chgAdd, wt]
  | cons a l ih =>
    intro m h hP hb p hp
    obtain ⟨b1, b2, b3, b4⟩ := h.bd a List.mem_cons_self
    have hx := hb a List.mem_cons_self
    have hasc := (List.pairwise_cons.1 h.asc)
    have hl : ArcsOk P l := ⟨fun c hc => h.bd c (List.mem_cons_of_mem _ hc), hasc.2⟩
    show rd (chgAdd l (m.set a.f0.toNat (wrap64 (rd m a.f0 + a.f1)))) p = _
    rw [ih _ hl (by simpa using hP) (fun c hc => by
      have := hasc.1 c hc
      have h2 := hl.bd c hc
      rw [rd_set _ b1 (by omega) (by omega), if_neg (by omega)]
      exact hb c (List.mem_cons_of_mem _ hc)) p hp, rd_set _ b1 (by omega) hp, wt, w_id (by omega) (by omega)]
    by_cases he : p = a.f0
    · rw [if_pos he, if_pos he.symm, he, wt_none (fun c hc => by have := hasc.1 c hc; omega)]; omega
    · rw [if_neg he, if_neg (fun e => he e.symm)]
/-- a valid marking -/
structure MOk (n : Nat) (m : List Int) : Prop where
  len : m.length = n
  bd : ∀ x ∈ m, 0 ≤ x ∧ x ≤ 1048576
theorem MOk.at_ {n : Nat} {m : List Int} (h : MOk n m) (p : Int) : 0 ≤ rd m p ∧ rd m p ≤ 1048576 := by
  rw [rd, List.getD_eq_getElem?_getD]
  cases hm : m[p.toNat]? with
  | none => simp
  | some x => exact h.bd x (List.mem_of_getElem? hm)
/-- what a place holds after a transition -/
def aft (t : S58) (m : List Int) (p : Int) : Int := rd m p - wt t.f1 p + wt t.f2 p
theorem rd_chg {ps : List S55} {ts : List S58} {t : S58} {m : List Int} (hn : NetOk ps ts) (ht : t ∈ ts) (hm : MOk ps.length m) (p : Int) (hp : 0 ≤ p) : rd (chgAdd t.f2 (chgSub t.f1 m)) p = aft t m p := by
  have hT := hn.tr t ht
  have h1 := fun p hp => rd_chgSub t.f1 m hT.pre (by have := hm.len; omega) (fun a _ => by have := hm.at_ a.f0; omega) p hp
  rw [rd_chgAdd t.f2 _ hT.post (by rw [chgSub_len]; have := hm.len; omega) (fun a ha => by
    have := hT.post.bd a ha
    rw [h1 a.f0 (by omega)]
    have := hm.at_ a.f0
    have := wt_bd hT.pre a.f0
    omega) p hp, h1 p hp, aft]
theorem aft_bd {ps : List S55} {ts : List S58} {t : S58} {m : List Int} (hn : NetOk ps ts) (ht : t ∈ ts) (hm : MOk ps.length m) (p : Int) : -99 ≤ aft t m p ∧ aft t m p ≤ 1048675 := by
  have := hm.at_ p
  have := wt_bd (hn.tr t ht).pre p
  have := wt_bd (hn.tr t ht).post p
  unfold aft; omega
theorem rfAfter_eq {ps : List S55} {ts : List S58} {t : S58} {m : List Int} (hn : NetOk ps ts) (ht : t ∈ ts) (hm : MOk ps.length m) (p : Int) : rfAfter t m p = aft t m p := by
  have := hm.at_ p
  have := wt_bd (hn.tr t ht).pre p
  have := wt_bd (hn.tr t ht).post p
  unfold rfAfter aft
  rw [w_id (x := rd m p - wt t.f1 p) (by omega) (by omega), w_id (by omega) (by omega)]
theorem chg_eq {ps : List S55} {ts : List S58} {t : S58} {m : List Int} (hn : NetOk ps ts) (ht : t ∈ ts) (hm : MOk ps.length m) : chgAdd t.f2 (chgSub t.f1 m) = (List.range ps.length).map fun p : Nat => aft t m (p : Int) := by
  apply List.ext_getElem
  · rw [chgAdd_len, chgSub_len, hm.len]; simp
  · intro i h1 h2
    have := rd_chg hn ht hm (i : Int) (by omega)
    rw [List.getElem_map, List.getElem_range, ← this, rd_nat, List.getD_eq_getElem?_getD, List.getElem?_eq_getElem h1]; rfl
theorem arcsIn_of {P : Int} {l : List S60} {n : Nat} (h : ArcsOk P l) (e : P = (n : Int)) : arcsIn l n := fun a ha => by have := h.bd a ha; omega
theorem readyOk_of {ps : List S55} {ts : List S58} {t : S58} {m : List Int} (hn : NetOk ps ts) (ht : t ∈ ts) (hm : MOk ps.length m) : readyOk ps t.f1 t.f2 t.f3 m := by
  have hT := hn.tr t ht
  have hl := hm.len
  have := hn.np
  exact ⟨arcsIn_of hT.pre (by omega), arcsIn_of hT.post (by omega), arcsIn_of hT.inh (by omega), by omega, by omega⟩
theorem ready_eq {ps : List S55} {ts : List S58} {t : S58} {m : List Int} (hn : NetOk ps ts) (ht : t ∈ ts) (hm : MOk ps.length m) : readyB ps t.f1 t.f2 t.f3 m = rfReady ps t m := by
  have hT := hn.tr t ht
  have hl := hm.len
  rw [Bool.eq_iff_iff]
  rw [readyB, rfReady, Bool.and_eq_true, Bool.and_eq_true, List.all_eq_true, List.all_eq_true, List.all_eq_true, List.all_eq_true]
  have hcap : ∀ p : Nat, p < ps.length → 0 ≤ (rd_T55 ps (p : Int)).f2 := fun p hp => ((hn.pl _ (rdP_mem hp)).cap).1
  have hbadE : ∀ p : Nat, rfBad ps t m p = false ↔ (¬ rd m p < wt t.f1 p) ∧ ¬ (0 < wt t.f3 p ∧ wt t.f3 p ≤ rd m p) ∧ ¬ (0 < (rd_T55 ps p).f2 ∧ (rd_T55 ps p).f2 < aft t m p) := fun p => by
    rw [rfBad, rfAfter_eq hn ht hm, Bool.or_eq_false_iff, Bool.or_eq_false_iff, Bool.and_eq_false_iff, Bool.and_eq_false_iff]
    simp only [decide_eq_false_iff_not]
    constructor
    · rintro ⟨⟨h1, h2⟩, h3⟩; exact ⟨h1, by omega, by omega⟩
    · rintro ⟨h1, h2, h3⟩; exact ⟨⟨h1, by omega⟩, by omega⟩
  constructor
  · rintro ⟨⟨h1, h2⟩, h3⟩ p hp
    have hp' : p < ps.length := List.mem_range.1 hp
    have k := (hbadE p).2 ⟨?_, ?_, ?_⟩
    · rw [k]; rfl
    · rcases wt_cases hT.pre (p : Int) with ⟨a, ha, e1, e2⟩ | e
      · have := h1 a ha
        simp only [rdyPre, Bool.not_eq_true', decide_eq_false_iff_not] at this
        rw [e1] at this; rw [e2]; exact this
      · have := hm.at_ (p : Int); omega
    · rcases wt_cases hT.inh (p : Int) with ⟨a, ha, e1, e2⟩ | e
      · have := h2 a ha
        simp only [rdyInh, Bool.not_eq_true', decide_eq_false_iff_not] at this
        rw [e1] at this; rw [e2]; omega
      · omega
    · have := h3 p (List.mem_range.2 (by omega))
      rw [capOk, rd_chg hn ht hm _ (by omega), Bool.not_eq_true', Bool.and_eq_false_iff] at this
      simp only [decide_eq_false_iff_not] at this
      omega
  · intro h
    have h' : ∀ p : Nat, p < ps.length → (¬ rd m p < wt t.f1 p) ∧ ¬ (0 < wt t.f3 p ∧ wt t.f3 p ≤ rd m p) ∧ ¬ (0 < (rd_T55 ps p).f2 ∧ (rd_T55 ps p).f2 < aft t m p) := fun p hp => (hbadE p).1 (by
      have := h p (List.mem_range.2 hp)
      simpa using this)
    refine ⟨⟨fun a ha => ?_, fun a ha => ?_⟩, fun i hi => ?_⟩
    · have hb := hT.pre.bd a ha
      obtain ⟨q, hq⟩ := Int.eq_ofNat_of_zero_le hb.1
      have := (h' q (by omega)).1
      rw [← hq, wt_mem hT.pre ha] at this
      simp only [rdyPre, Bool.not_eq_true', decide_eq_false_iff_not]; exact this
    · have hb := hT.inh.bd a ha
      obtain ⟨q, hq⟩ := Int.eq_ofNat_of_zero_le hb.1
      have := (h' q (by omega)).2.1
      rw [← hq, wt_mem hT.inh ha] at this
      simp only [rdyInh, Bool.not_eq_true', decide_eq_false_iff_not]; omega
    · have hi' : i < m.length := List.mem_range.1 hi
      have := (h' i (by omega)).2.2
      have h2 := hcap i (by omega)
      rw [capOk, rd_chg hn ht hm _ (by omega), Bool.not_eq_true', Bool.and_eq_false_iff]
      simp only [decide_eq_false_iff_not]
      omega

end Go.Proofs.Ytiamncgagfjegaa.Hy
