/- By hand (fir_equation): a part of this seat's proofs. -/
import Derived.Test.YtiamncgagfjegaaXFirRuns
import Derived.Test.YtiamncgagfjegaaXFirCounts
import Derived.Test.YtiamncgagfjegaaH31
import Derived.Test.YtiamncgagfjegaaH32
namespace Go.Proofs.Ytiamncgagfjegaa.Hy
open Go.RowKit Go.Shelf Go.Proofs.YtiamncgagfjegaaW.PrintWords Go.Proofs.YtiamncgagfjegaaW.PrintLast Go.Proofs.YtiamncgagfjegaaW.PrintMore
set_option linter.unusedVariables false
set_option linter.unusedSimpArgs false
attribute [local go_sem] Oper.semAt_some
/-! ### FiringEquation -/
theorem weightN_ev (l : List S60) (p : Int) (hl : l.length ≤ 9223372036854775807) : Ev (fun k => net_weight.f k l p) (wt l p) := by
  simp only [net_weight.f]
  have e : wt l p = wt (l.drop 0) p := by simp
  rw [e]
  refine Ev.loop l.length (fun k i => net_weight.l0 k p l (l.length : Int) (i : Int)) (fun i => wt (l.drop i) p) (fun i hi ih => ?_) ?_ 0 (Nat.zero_le _)
  · refine Ev.up ?_
    simp only [net_weight.l0, if_pos (show (i : Int) < (l.length : Int) by omega), if_pos (show (0 : Int) ≤ (i : Int) by omega), w_succ (show i < 9223372036854775807 by omega)]
    rw [rdA_drop hi, wt]
    by_cases h : (rd_T60 l (i : Int)).f0 = p
    · simp only [if_pos h]; exact Ev.of fun _ => rfl
    · simp only [if_neg h]; exact ih
  · refine Ev.up ?_
    simp only [net_weight.l0, if_neg (show ¬ (l.length : Int) < (l.length : Int) by omega)]
    rw [List.drop_length]; exact Ev.of fun _ => rfl
def dW (t : S58) (p : Int) : Int := wt t.f2 p - wt t.f1 p
def incRow (ts : List S58) (p : Nat) : List Int := ts.map fun t => dW t (p : Int)
def matN (n : Nat) (ts : List S58) (p : Nat) : List (List Int) := (List.range n).map fun q => if q < p then incRow ts q else []
theorem matN_len (n : Nat) (ts : List S58) (p : Nat) : (matN n ts p).length = n := by simp [matN]
theorem matN_set0 (n : Nat) (ts : List S58) (p : Nat) : (matN n ts p).set p [] = matN n ts p := by
  apply List.ext_getElem (by simp)
  intro i h1 h2
  rw [List.getElem_set]
  split
  · subst_vars; simp [matN]
  · rfl
theorem matN_succ (n : Nat) (ts : List S58) (p : Nat) : (matN n ts p).set p (incRow ts p) = matN n ts (p + 1) := by
  apply List.ext_getElem (by simp [matN])
  intro i h1 h2
  rw [List.getElem_set]
  split
  · subst_vars; simp [matN]
  · rename_i hne
    simp only [matN, List.getElem_map, List.getElem_range]
    by_cases h : i < p
    · rw [if_pos h, if_pos (by omega)]
    · rw [if_neg h, if_neg (by omega)]
theorem rdL_set (x : List (List Int)) (p : Nat) (hp : p < x.length) (r : List Int) : rd_L6 (x.set p r) (p : Int) = r := by
  rw [rd_L6, Int.toNat_natCast, List.getD_eq_getElem?_getD, List.getElem?_set_self hp]; rfl
theorem incRow_take {ts : List S58} {j : Nat} (h : j < ts.length) (p : Nat) : incRow (ts.take (j + 1)) p = incRow (ts.take j) p ++ [dW (rd_T58 ts (j : Int)) (p : Int)] := by
  rw [take_rdT h]; simp [incRow]
theorem arcs_len {P : Int} {l : List S60} (h : ArcsOk P l) (hP : P ≤ 1000) : l.length ≤ 9223372036854775807 := by
  have key : ∀ (l : List S60), l.Pairwise (fun a b => a.f0 < b.f0) → ∀ lo : Int, (∀ a ∈ l, lo ≤ a.f0 ∧ a.f0 < P) → lo ≤ P → (l.length : Int) ≤ P - lo := by
    intro l
    induction l with
    | nil => intro _ lo _ h; simp; omega
    | cons a r ih =>
      intro hp lo hb _
      have ha := hb a List.mem_cons_self
      have hp2 := List.pairwise_cons.1 hp
      have := ih hp2.2 (a.f0 + 1) (fun b hb2 => by have := hp2.1 b hb2; have := hb b (List.mem_cons_of_mem _ hb2); omega) (by omega)
      simp only [List.length_cons]
      omega
  by_cases hl : l = []
  · subst hl; simp
  · obtain ⟨a, r, rfl⟩ := List.exists_cons_of_ne_nil hl
    have ha := h.bd a List.mem_cons_self
    have := key _ h.asc 0 (fun b hb => by have := h.bd b hb; omega) (by omega)
    omega
theorem inc0_ev (nm : ByteArray) (ps : List S55) (ts : List S58) (hc : (chkNet nm ps ts).1 = 0) (hT : ¬ 0 < ts.length) : Ev (fun k => net_Incidence.f k nm ps ts) [] := by
  simp only [net_Incidence.f, net_valid.f, net_Check.f, Option.bind_some, hc]
  simp only [if_pos (show ((0 : Int) == 0) = true by decide), show ((ts.length : Int) == 0) = true from beq_iff_eq.2 (by omega)]
  refine Ev.up ?_
  simp only [net_Incidence.j0, if_true]
  exact Ev.of fun _ => rfl
theorem inc_ev (nm : ByteArray) (ps : List S55) (ts : List S58) (hc : (chkNet nm ps ts).1 = 0) (hT : 0 < ts.length) : Ev (fun k => net_Incidence.f k nm ps ts) (matN ps.length ts ps.length) := by
  have hn := (chkNet_ok hc).2
  have hnp := hn.np
  have hnt := hn.nt
  simp only [net_Incidence.f, net_valid.f, net_Check.f, Option.bind_some, hc]
  simp only [if_pos (show ((0 : Int) == 0) = true by decide), show ((ts.length : Int) == 0) = false from beq_eq_false_iff_ne.2 (by omega)]
  refine Ev.up ?_
  simp only [net_Incidence.j0, if_neg (show ¬ (false = true) by decide), if_pos (show (0 : Int) ≤ (ps.length : Int) by omega), Int.toNat_natCast, if_pos (show ps.length ≤ 11728124029610 by omega), Option.bind_some, List.length_replicate]
  have e0 : (List.replicate ps.length [] : List (List Int)) = matN ps.length ts 0 := by
    apply List.ext_getElem (by simp [matN])
    intro i h1 h2
    simp [matN]
  rw [e0]
  refine Ev.loop ps.length (fun k p => net_Incidence.l0 k (matN ps.length ts p) (ps.length : Int) (p : Int) nm ps ts) (fun _ => matN ps.length ts ps.length) (fun p hp ih => ?_) ?_ 0 (Nat.zero_le _)
  · refine Ev.up ?_
    simp only [net_Incidence.l0, if_pos (show (p : Int) < (ps.length : Int) by omega)]
    have key := Ev.loop ts.length (fun k j => net_Incidence.l1 k ((matN ps.length ts p).set p (incRow (ts.take j) p)) (p : Int) (ps.length : Int) (p : Int) ts (ts.length : Int) (j : Int) nm ps ts) (fun _ => matN ps.length ts ps.length) (fun j hj ih2 => ?_) ?_ 0 (Nat.zero_le _)
    · simp only [List.take_zero, show incRow [] p = [] from rfl, matN_set0] at key
      exact key
    · have hT := hn.tr _ (rdT_mem hj)
      have b1 := wt_bd hT.pre (p : Int)
      have b2 := wt_bd hT.post (p : Int)
      have hl1 : (rd_T58 ts (j : Int)).f1.length ≤ 9223372036854775807 := arcs_len hT.pre (by omega)
      have hl2 : (rd_T58 ts (j : Int)).f2.length ≤ 9223372036854775807 := arcs_len hT.post (by omega)
      have hlen : ((matN ps.length ts p).set p (incRow (ts.take j) p)).length = ps.length := by rw [List.length_set, matN_len]
      have hrl : (incRow (ts.take j) p).length ≤ 1000 := by simp [incRow]; omega
      refine Ev.up ?_
      simp only [net_Incidence.l1, if_pos (show (j : Int) < (ts.length : Int) by omega), if_pos (show (0 : Int) ≤ (j : Int) by omega), if_pos (show (0 : Int) ≤ (p : Int) by omega), hlen, if_pos (show (p : Int) < (ps.length : Int) by omega), w_succ (show j < 9223372036854775807 by omega)]
      refine Ev.bind (weightN_ev _ (p : Int) hl2) ?_
      refine Ev.bind (weightN_ev _ (p : Int) hl1) ?_
      rw [rdL_set _ p (by rw [matN_len]; exact hp)]
      simp only [if_pos (show (incRow (ts.take j) p).length < 17592186044416 by omega), Int.toNat_natCast, List.set_set, w_id (show -9223372036854775808 ≤ wt (rd_T58 ts (j : Int)).f2 (p : Int) - wt (rd_T58 ts (j : Int)).f1 (p : Int) by omega) (show wt (rd_T58 ts (j : Int)).f2 (p : Int) - wt (rd_T58 ts (j : Int)).f1 (p : Int) ≤ 9223372036854775807 by omega)]
      rw [incRow_take hj] at ih2
      exact ih2
    · refine Ev.up ?_
      simp only [net_Incidence.l1, if_neg (show ¬ (ts.length : Int) < (ts.length : Int) by omega), List.take_length, matN_succ, w_succ (show p < 9223372036854775807 by omega)]
      exact ih
  · refine Ev.up ?_
    simp only [net_Incidence.l0, if_neg (show ¬ (ps.length : Int) < (ps.length : Int) by omega)]
    exact Ev.of fun _ => rfl
/-! sums -/
def sumT (f : Nat → Int) : Nat → Int
  | 0 => 0
  | n + 1 => sumT f n + f n
theorem sumT_add (f g : Nat → Int) : ∀ n, sumT (fun t => f t + g t) n = sumT f n + sumT g n := by
  intro n
  induction n with
  | zero => rfl
  | succ n ih => simp only [sumT, ih]; omega
theorem sumT_zero (f : Nat → Int) (h : ∀ t, f t = 0) : ∀ n, sumT f n = 0 := by
  intro n
  induction n with
  | zero => rfl
  | succ n ih => simp only [sumT, ih, h]; rfl
theorem sumT_one (v : Int) (a : Nat) : ∀ n, sumT (fun t => if t = a then v else 0) n = if a < n then v else 0 := by
  intro n
  induction n with
  | zero => rfl
  | succ n ih =>
    simp only [sumT, ih]
    by_cases h : a < n
    · rw [if_pos h, if_neg (by omega), if_pos (by omega)]; omega
    · rw [if_neg h]
      by_cases h2 : n = a
      · rw [if_pos h2, if_pos (by omega)]; omega
      · rw [if_neg h2, if_neg (by omega)]; rfl
theorem sumT_congr {f g : Nat → Int} (h : ∀ t, f t = g t) (n : Nat) : sumT f n = sumT g n := by rw [show f = g from funext h]
theorem sumT_bd (f : Nat → Int) (B : Int) (h : ∀ t, -B ≤ f t ∧ f t ≤ B) : ∀ n : Nat, -((n : Int) * B) ≤ sumT f n ∧ sumT f n ≤ (n : Int) * B := by
  intro n
  induction n with
  | zero => simp [sumT]
  | succ n ih =>
    have := h n
    have e : ((n + 1 : Nat) : Int) * B = (n : Int) * B + B := by rw [Int.natCast_add, Int.add_mul]; simp
    rw [e, sumT]
    omega
/-- what the transitions of a sequence add to a place, one by one -/
def sumD (d : Int → Int) : List Int → Int
  | [] => 0
  | t :: r => d t + sumD d r
theorem sum_count (d : Int → Int) (n : Nat) : ∀ seq : List Int, (∀ t ∈ seq, 0 ≤ t ∧ t < (n : Int)) → sumT (fun t => d (t : Int) * (seq.count (t : Int) : Int)) n = sumD d seq := by
  intro seq
  induction seq with
  | nil => intro _; exact sumT_zero _ (fun t => by simp) n
  | cons a r ih =>
    intro h
    have ha := h a List.mem_cons_self
    obtain ⟨b, rfl⟩ := Int.eq_ofNat_of_zero_le ha.1
    have e : ∀ t : Nat, d (t : Int) * (((b : Int) :: r).count (t : Int) : Int) = d (t : Int) * (r.count (t : Int) : Int) + (if t = b then d (b : Int) else 0) := by
      intro t
      rw [List.count_cons]
      by_cases ht : t = b
      · subst ht; simp [Int.mul_add]
      · rw [if_neg ht, if_neg (by simp; omega)]; simp
    rw [sumT_congr e, sumT_add, sumT_one, ih (fun t ht => h t (List.mem_cons_of_mem _ ht)), if_pos (by omega), sumD]
    omega
/-! the Parikh vector of a sequence in range -/
theorem parL_ok (n : Nat) : ∀ (seq o : List Int), o.length = n → (∀ t ∈ seq, 0 ≤ t ∧ t < (n : Int)) → (∀ t : Nat, 0 ≤ rd o (t : Int) ∧ rd o (t : Int) + seq.length ≤ 1000000) →
    (parL n o seq).2 = 0 ∧ (parL n o seq).1.length = n ∧ ∀ t : Nat, t < n → rd (parL n o seq).1 (t : Int) = rd o (t : Int) + (seq.count (t : Int) : Int) := by
  intro seq
  induction seq with
  | nil => intro o ho _ _; exact ⟨rfl, ho, fun t _ => by simp [parL]⟩
  | cons a r ih =>
    intro o ho h hb
    have ha := h a List.mem_cons_self
    obtain ⟨b, rfl⟩ := Int.eq_ofNat_of_zero_le ha.1
    have hbb := hb b
    simp only [List.length_cons] at hb hbb
    rw [parL, if_neg (by omega), w_id (by omega) (by omega)]
    have hset : ∀ t : Nat, rd (o.set (b : Int).toNat (rd o (b : Int) + 1)) (t : Int) = if t = b then rd o (b : Int) + 1 else rd o (t : Int) := fun t => by
      rw [rd_set _ (by omega) (by omega) (by omega)]
      by_cases h : t = b
      · rw [if_pos h, if_pos (by omega)]
      · rw [if_neg h, if_neg (by omega)]
    obtain ⟨i1, i2, i3⟩ := ih (o.set (b : Int).toNat (rd o (b : Int) + 1)) (by rw [List.length_set]; exact ho) (fun t ht => h t (List.mem_cons_of_mem _ ht)) (fun t => by
      have := hb t
      rw [hset]
      split
      · subst_vars; omega
      · omega)
    refine ⟨i1, i2, fun t ht => ?_⟩
    rw [i3 t ht, hset, List.count_cons]
    by_cases h : t = b
    · subst h; simp; omega
    · rw [if_neg h, if_neg (by simp; omega)]; simp
/-! a run that succeeds -/
theorem fireR_ok {nm : ByteArray} {ps : List S55} {ts : List S58} {m : List Int} {t : Int} (h : (fireR nm ps ts m t).2 = 0) :
    (0 ≤ t ∧ t < (ts.length : Int)) ∧ (fireR nm ps ts m t).1.length = ps.length ∧ ∀ p : Nat, p < ps.length → rd (fireR nm ps ts m t).1 (p : Int) = rd m (p : Int) + dW (rd_T58 ts t) (p : Int) := by
  rw [fireR] at h ⊢
  by_cases hc : (chkNet nm ps ts).1 ≠ 0
  · rw [if_pos hc] at h; exact absurd h hc
  · rw [if_neg hc] at h ⊢
    have hn := (chkNet_ok (by simpa using hc)).2
    by_cases hv : markB ps.length m = false
    · rw [if_pos hv] at h; simp at h
    · rw [if_neg hv] at h ⊢
      have hM := markB_ok (by simpa using hv)
      by_cases hr : t < 0 ∨ t ≥ (ts.length : Int)
      · rw [if_pos hr] at h; simp at h
      · rw [if_neg hr] at h ⊢
        by_cases hb : memB (firesN ps ts m) t = false
        · rw [if_pos hb] at h; simp at h
        · rw [if_neg hb] at h ⊢
          obtain ⟨n, rfl⟩ := Int.eq_ofNat_of_zero_le (show 0 ≤ t by omega)
          have hmem := rdT_mem (ts := ts) (i := n) (by omega)
          refine ⟨by omega, ?_⟩
          rw [refAfter] at h ⊢
          by_cases ha : ((List.range ps.length).all fun p : Nat => decide (rfAfter (rd_T58 ts (n : Int)) m p ≤ 1048576)) = true
          · rw [if_pos ha]
            refine ⟨by simp, fun p hp => ?_⟩
            show rd ((List.range ps.length).map fun p : Nat => rfAfter (rd_T58 ts (n : Int)) m p) (p : Int) = _
            rw [rd_nat, List.getD_eq_getElem?_getD, List.getElem?_map, List.getElem?_range hp]
            show rfAfter (rd_T58 ts (n : Int)) m p = _
            rw [rfAfter_eq hn hmem hM, aft, dW]; omega
          · rw [if_neg ha] at h; simp at h
theorem runR_ok (nm : ByteArray) (ps : List S55) (ts : List S58) : ∀ (seq : List Int) (i : Nat) (out : List Int), out.length = ps.length → (runR nm ps ts i out seq).2.1 = 0 →
    (∀ t ∈ seq, 0 ≤ t ∧ t < (ts.length : Int)) ∧ (runR nm ps ts i out seq).1.length = ps.length ∧ ∀ p : Nat, p < ps.length → rd (runR nm ps ts i out seq).1 (p : Int) = rd out (p : Int) + sumD (fun t => dW (rd_T58 ts t) (p : Int)) seq := by
  intro seq
  induction seq with
  | nil => intro i out ho _; exact ⟨by simp, ho, fun p _ => by simp [runR, sumD]⟩
  | cons t r ih =>
    intro i out ho h
    rw [runR] at h ⊢
    by_cases hz : (fireR nm ps ts out t).2 = 0
    · rw [if_pos hz] at h ⊢
      obtain ⟨f1, f2, f3⟩ := fireR_ok hz
      obtain ⟨i1, i2, i3⟩ := ih (i + 1) _ f2 h
      refine ⟨fun s hs => ?_, i2, fun p hp => ?_⟩
      · rcases List.mem_cons.1 hs with rfl | hs
        · exact f1
        · exact i1 s hs
      · rw [i3 p hp, f3 p hp, sumD]; omega
    · rw [if_neg hz] at h; exact absurd h hz
theorem FiringEquation_ev (nm : ByteArray) (ps : List S55) (ts : List S58) (m seq : List Int) (hm : m.length ≤ 9223372036854775807) (hs : seq.length ≤ 9223372036854775807) : Ev (fun k => petrinetlaw11_FiringEquation.f k nm ps ts m seq) true := by
  have ex : ∀ (nm : ByteArray) (ps : List S55) (ts : List S58), Ev (fun k => petrinetlaw11_FiringEquation.j0 k m seq true nm ps ts) true := fun nm ps ts => by
    refine Ev.up ?_
    simp only [petrinetlaw11_FiringEquation.j0, if_true]
    exact Ev.bind example_ev (Ev.of fun _ => rfl)
  simp only [petrinetlaw11_FiringEquation.f, petrinetref09_Small.f]
  by_cases hsm : small nm ps ts
  · have h1 := hsm.1
    have h2 := hsm.2.1
    simp only [if_pos hsm, Option.bind_some, if_true]
    cases hb : decide ((seq.length : Int) > 60) with
    | true => exact ex nm ps ts
    | false =>
      have hs2 : seq.length ≤ 60 := by have := of_decide_eq_false hb; omega
      refine Ev.up ?_
      simp only [petrinetlaw11_FiringEquation.j0, if_neg (show ¬ (false = true) by decide)]
      refine Ev.bind (Run_ev nm ps ts m seq (by omega) hm) ?_
      by_cases hz : (RunR nm ps ts m seq).2.1 = 0
      · simp only [if_pos hz]
        have hz2 := hz
        rw [RunR] at hz2
        by_cases hc : (chkNet nm ps ts).1 ≠ 0
        · rw [if_pos hc] at hz2; exact absurd hz2 hc
        · rw [if_neg hc] at hz2
          by_cases hv : markB ps.length m = true
          · rw [if_pos hv] at hz2
            have hc0 : (chkNet nm ps ts).1 = 0 := by simpa using hc
            have hn := (chkNet_ok hc0).2
            have hM := markB_ok hv
            have hml := hM.len
            have hnp := hn.np
            have hnt := hn.nt
            obtain ⟨r1, r2, r3⟩ := runR_ok nm ps ts seq 0 m (by omega) hz2
            have hR : RunR nm ps ts m seq = runR nm ps ts 0 m seq := by rw [RunR, if_neg hc, if_pos hv]
            rw [hR]
            obtain ⟨out, hout⟩ : ∃ out, (runR nm ps ts 0 m seq).1 = out := ⟨_, rfl⟩
            rw [hout] at r2 r3 ⊢
            have hP : parR nm ps ts seq = parL ts.length (List.replicate ts.length 0) seq := by rw [parR, if_neg hc]
            have hrep : ∀ t : Nat, rd (List.replicate ts.length 0) (t : Int) = 0 := fun t => by
              rw [rd_nat, List.getD_eq_getElem?_getD, List.getElem?_replicate]; split <;> rfl
            obtain ⟨c1, c2, c3⟩ := parL_ok ts.length seq (List.replicate ts.length 0) (by simp) r1 (fun t => by rw [hrep]; omega)
            refine Ev.bind (parikh_ev nm ps ts seq (by omega) hs) ?_
            rw [hP]
            obtain ⟨cnt, hcnt⟩ : ∃ cnt, (parL ts.length (List.replicate ts.length 0) seq).1 = cnt := ⟨_, rfl⟩
            rw [hcnt] at c2 c3 ⊢
            simp only [c1, if_true, if_pos (show (out.length : Int) = (m.length : Int) by omega)]
            have hcount : ∀ t : Nat, t < ts.length → rd cnt (t : Int) = (seq.count (t : Int) : Int) := fun t ht => by rw [c3 t ht, hrep]; omega
            have hcb : ∀ t : Nat, (seq.count (t : Int) : Int) ≤ 60 := fun t => by have : seq.count (t : Int) ≤ seq.length := List.count_le_length; omega
            -- the loops over places and transitions, over any matrix that holds the differences
            have loops : ∀ c : List (List Int), (∀ p t : Nat, p < ps.length → t < ts.length → p < c.length ∧ t < (rd_L6 c (p : Int)).length ∧ rd (rd_L6 c (p : Int)) (t : Int) = dW (rd_T58 ts (t : Int)) (p : Int)) → Ev (fun k => petrinetlaw11_FiringEquation.l0 k m out cnt c 0) true := by
              intro c hcc
              refine Ev.loop m.length (fun k p => petrinetlaw11_FiringEquation.l0 k m out cnt c (p : Int)) (fun _ => true) (fun p hp ih => ?_) ?_ 0 (Nat.zero_le _)
              · refine Ev.up ?_
                simp only [petrinetlaw11_FiringEquation.l0, if_pos (show (p : Int) < (m.length : Int) by omega), if_pos (show (0 : Int) ≤ (p : Int) by omega)]
                obtain ⟨f, hf⟩ : ∃ f : Nat → Int, f = fun t : Nat => dW (rd_T58 ts (t : Int)) (p : Int) * (seq.count (t : Int) : Int) := ⟨_, rfl⟩
                have hd : ∀ t : Nat, t < ts.length → -99 ≤ dW (rd_T58 ts (t : Int)) (p : Int) ∧ dW (rd_T58 ts (t : Int)) (p : Int) ≤ 99 := fun t ht => by
                  have hT := hn.tr _ (rdT_mem ht)
                  have b1 := wt_bd hT.pre (p : Int)
                  have b2 := wt_bd hT.post (p : Int)
                  rw [dW]; omega
                have hfb : ∀ t : Nat, t < ts.length → -5940 ≤ f t ∧ f t ≤ 5940 := fun t ht => by
                  obtain ⟨d1, d2⟩ := hd t ht
                  have hk := hcb t
                  have h0 : (0 : Int) ≤ (seq.count (t : Int) : Int) := by omega
                  have u1 := Int.mul_le_mul_of_nonneg_right d2 h0
                  have u2 := Int.mul_le_mul_of_nonneg_right d1 h0
                  rw [hf]
                  show -5940 ≤ dW (rd_T58 ts (t : Int)) (p : Int) * (seq.count (t : Int) : Int) ∧ dW (rd_T58 ts (t : Int)) (p : Int) * (seq.count (t : Int) : Int) ≤ 5940
                  omega
                have hsb : ∀ j : Nat, j ≤ ts.length → -((j : Int) * 5940) ≤ sumT f j ∧ sumT f j ≤ (j : Int) * 5940 := by
                  intro j
                  induction j with
                  | zero => intro _; simp [sumT]
                  | succ j ihj =>
                    intro hj
                    have := hfb j (by omega)
                    have := ihj (by omega)
                    rw [sumT]; omega
                have hmb := hM.at_ (p : Int)
                have hfin : rd out (p : Int) = rd m (p : Int) + sumT f ts.length := by
                  rw [r3 p (by omega), hf]
                  have := sum_count (fun t => dW (rd_T58 ts t) (p : Int)) ts.length seq r1
                  rw [this]
                have key := Ev.loop ts.length (fun k j => petrinetlaw11_FiringEquation.l1 k m out cnt c (p : Int) (rd m (p : Int) + sumT f j) (j : Int)) (fun _ => true) (fun j hj ih2 => ?_) ?_ 0 (Nat.zero_le _)
                · simp only [sumT, Int.add_zero] at key
                  exact key
                · obtain ⟨g1, g2, g3⟩ := hcc p j (by omega) hj
                  have s1 := hsb j (by omega)
                  have s2 := hsb (j + 1) hj
                  have s3 := hfb j hj
                  have ef : dW (rd_T58 ts (j : Int)) (p : Int) * (seq.count (j : Int) : Int) = f j := by rw [hf]
                  refine Ev.up ?_
                  simp only [petrinetlaw11_FiringEquation.l1, c2, if_pos (show (j : Int) < (ts.length : Int) by omega), if_pos (show (0 : Int) ≤ (p : Int) by omega), if_pos (show (p : Int) < (c.length : Int) by omega), if_pos (show (0 : Int) ≤ (j : Int) by omega), if_pos (show (j : Int) < ((rd_L6 c (p : Int)).length : Int) by omega), g3, hcount j hj, ef, w_succ (show j < 9223372036854775807 by omega), w_id (show -9223372036854775808 ≤ f j by omega) (show f j ≤ 9223372036854775807 by omega), w_id (show -9223372036854775808 ≤ rd m (p : Int) + sumT f j + f j by omega) (show rd m (p : Int) + sumT f j + f j ≤ 9223372036854775807 by omega)]
                  have e : rd m (p : Int) + sumT f (j + 1) = rd m (p : Int) + sumT f j + f j := by rw [sumT]; omega
                  rw [e] at ih2
                  exact ih2
                · refine Ev.up ?_
                  simp only [petrinetlaw11_FiringEquation.l1, c2, if_neg (show ¬ (ts.length : Int) < (ts.length : Int) by omega), if_pos (show (0 : Int) ≤ (p : Int) by omega), if_pos (show (p : Int) < (out.length : Int) by omega), hfin, if_true, w_succ (show p < 9223372036854775807 by omega)]
                  exact ih
              · refine Ev.up ?_
                simp only [petrinetlaw11_FiringEquation.l0, if_neg (show ¬ (m.length : Int) < (m.length : Int) by omega)]
                exact Ev.bind example_ev (Ev.of fun _ => rfl)
            have j1 : ∀ c : List (List Int), (∀ p t : Nat, p < ps.length → t < ts.length → p < c.length ∧ t < (rd_L6 c (p : Int)).length ∧ rd (rd_L6 c (p : Int)) (t : Int) = dW (rd_T58 ts (t : Int)) (p : Int)) → Ev (fun k => petrinetlaw11_FiringEquation.j1 k m out cnt c false) true := by
              intro c hcc
              refine Ev.up ?_
              simp only [petrinetlaw11_FiringEquation.j1, if_neg (show ¬ (false = true) by decide)]
              exact loops c hcc
            by_cases hT : 0 < ts.length
            · refine Ev.bind (inc_ev nm ps ts hc0 hT) ?_
              simp only [matN_len, if_pos (show (ps.length : Int) = (m.length : Int) by omega)]
              refine j1 _ (fun p t hp ht => ?_)
              have e : rd_L6 (matN ps.length ts ps.length) (p : Int) = incRow ts p := by
                rw [rd_L6, Int.toNat_natCast, List.getD_eq_getElem?_getD, matN, List.getElem?_map, List.getElem?_range hp]
                show (if p < ps.length then incRow ts p else []) = _
                rw [if_pos hp]
              refine ⟨by rw [matN_len]; exact hp, ?_, ?_⟩
              · rw [e]; simpa [incRow] using ht
              · rw [e, rd_nat, List.getD_eq_getElem?_getD, incRow, List.getElem?_map, List.getElem?_eq_getElem ht]
                show dW ts[t] (p : Int) = _
                rw [rd_T58, Int.toNat_natCast, List.getD_eq_getElem?_getD, List.getElem?_eq_getElem ht]; rfl
            · refine Ev.bind (inc0_ev nm ps ts hc0 hT) ?_
              have hj : Ev (fun k => petrinetlaw11_FiringEquation.j1 k m out cnt [] false) true := j1 [] (fun p t _ ht => absurd ht (by omega))
              have e : decide ((ts.length : Int) > 0) = false := decide_eq_false (by omega)
              simp only [List.length_nil, e]
              split
              · exact hj
              · exact hj
          · rw [if_neg hv] at hz2; simp at hz2
      · simp only [if_neg hz]
        exact Ev.bind example_ev (Ev.of fun _ => rfl)
  · simp only [if_neg hsm, Option.bind_some, if_neg (show ¬ (false = true) by decide)]
    exact ex _ _ _

end Go.Proofs.Ytiamncgagfjegaa.Hy
