/- By hand (fir_grows): a part of this seat's proofs. -/
import Derived.Test.YtiamncgagfjegaaXLaws2
import Derived.Test.YtiamncgagfjegaaH23
import Derived.Test.YtiamncgagfjegaaH24
namespace Go.Proofs.Ytiamncgagfjegaa.Hy
open Go.RowKit Go.Shelf Go.Proofs.YtiamncgagfjegaaW.PrintWords Go.Proofs.YtiamncgagfjegaaW.PrintLast Go.Proofs.YtiamncgagfjegaaW.PrintMore
set_option linter.unusedVariables false
set_option linter.unusedSimpArgs false
attribute [local go_sem] Oper.semAt_some
/-! ### FiringGrows -/
def plT (t : S58) : Bool := decide (t.f3.length = 0) && decide (t.f4 = 0)
def plainB (nm : ByteArray) (ps : List S55) (ts : List S58) : Bool := (ts.all plT && ps.all fun p => decide (p.f2 = 0)) && decide ((chkNet nm ps ts).1 = 0)
theorem plain_ev (nm : ByteArray) (ps : List S55) (ts : List S58) (hl : ps.length ≤ 9223372036854775807) (hl2 : ts.length ≤ 9223372036854775807) : Ev (fun k => net_Plain.f k nm ps ts) (plainB nm ps ts) := by
  simp only [net_Plain.f]
  have e : plainB nm ps ts = (((ts.drop 0).all plT && (ps.drop 0).all fun p => decide (p.f2 = 0)) && decide ((chkNet nm ps ts).1 = 0)) := by simp [plainB]
  rw [e]
  refine Ev.loop ts.length (fun k i => net_Plain.l0 k ts (ts.length : Int) (i : Int) nm ps ts) (fun i => ((ts.drop i).all plT && (ps.drop 0).all fun p => decide (p.f2 = 0)) && decide ((chkNet nm ps ts).1 = 0)) (fun i hi ih => ?_) ?_ 0 (Nat.zero_le _)
  · refine Ev.up ?_
    simp only [net_Plain.l0, if_pos (show (i : Int) < (ts.length : Int) by omega), if_pos (show (0 : Int) ≤ (i : Int) by omega), w_succ (show i < 9223372036854775807 by omega)]
    rw [rdT_drop hi, List.all_cons]
    by_cases h1 : (((rd_T58 ts (i : Int)).f3).length : Int) > 0
    · simp only [if_pos h1]
      refine Ev.val ?_
      have : plT (rd_T58 ts (i : Int)) = false := by simp [plT, show ¬ (rd_T58 ts (i : Int)).f3.length = 0 by omega]
      rw [this]; simp
    · simp only [if_neg h1]
      by_cases h2 : (rd_T58 ts (i : Int)).f4 = 0
      · simp only [if_pos h2]
        have : plT (rd_T58 ts (i : Int)) = true := by simp [plT, h2]; simpa using (show (rd_T58 ts (i : Int)).f3.length = 0 by omega)
        rw [this, Bool.true_and]; exact ih
      · simp only [if_neg h2]
        refine Ev.val ?_
        have : plT (rd_T58 ts (i : Int)) = false := by simp [plT, h2]
        rw [this]; simp
  · refine Ev.up ?_
    simp only [net_Plain.l0, if_neg (show ¬ (ts.length : Int) < (ts.length : Int) by omega)]
    rw [List.drop_length, List.all_nil, Bool.true_and]
    refine Ev.loop ps.length (fun k i => net_Plain.l1 k ps (ps.length : Int) (i : Int) nm ps ts) (fun i => ((ps.drop i).all fun p => decide (p.f2 = 0)) && decide ((chkNet nm ps ts).1 = 0)) (fun i hi ih => ?_) ?_ 0 (Nat.zero_le _)
    · refine Ev.up ?_
      simp only [net_Plain.l1, if_pos (show (i : Int) < (ps.length : Int) by omega), if_pos (show (0 : Int) ≤ (i : Int) by omega), w_succ (show i < 9223372036854775807 by omega)]
      rw [rdP_drop hi, List.all_cons]
      by_cases h2 : (rd_T55 ps (i : Int)).f2 = 0
      · simp only [if_pos h2]; rw [decide_eq_true h2, Bool.true_and]; exact ih
      · simp only [if_neg h2]; rw [decide_eq_false h2, Bool.false_and, Bool.false_and]; exact Ev.of fun _ => rfl
    · refine Ev.up ?_
      simp only [net_Plain.l1, if_neg (show ¬ (ps.length : Int) < (ps.length : Int) by omega), net_valid.f, net_Check.f, Option.bind_some]
      rw [List.drop_length, List.all_nil, Bool.true_and]
      refine Ev.val ?_
      by_cases h : (chkNet nm ps ts).1 = 0 <;> simp [h]
structure PlainOk (ps : List S55) (ts : List S58) : Prop where
  inh : ∀ t ∈ ts, t.f3 = []
  prio : ∀ t ∈ ts, t.f4 = 0
  cap : ∀ p ∈ ps, p.f2 = 0
theorem plainB_ok {nm : ByteArray} {ps : List S55} {ts : List S58} (h : plainB nm ps ts = true) : PlainOk ps ts ∧ (chkNet nm ps ts).1 = 0 := by
  simp only [plainB, Bool.and_eq_true, List.all_eq_true, decide_eq_true_eq, plT] at h
  exact ⟨⟨fun t ht => List.eq_nil_of_length_eq_zero (h.1.1 t ht).1, fun t ht => (h.1.1 t ht).2, h.1.2⟩, h.2⟩
theorem most_plain {ps : List S55} {ts : List S58} (hp : PlainOk ps ts) (m : List Int) : ∀ n, n ≤ ts.length → mostN ps ts m n = 0 := by
  intro n
  induction n with
  | zero => intro _; rfl
  | succ n ih =>
    intro h
    rw [mostN, ih (by omega), hp.prio _ (rdT_mem (by omega)), mx_eq]
    split <;> rfl
theorem fires_plain {ps : List S55} {ts : List S58} (hp : PlainOk ps ts) (m : List Int) (t : Int) : t ∈ firesN ps ts m ↔ ∃ n : Nat, t = (n : Int) ∧ n < ts.length ∧ rfReady ps (rd_T58 ts (n : Int)) m = true := by
  simp only [firesN, ints, List.mem_map, List.mem_filter, rdyN, List.mem_range, most_plain hp m ts.length (Nat.le_refl _), decide_eq_true_eq]
  constructor
  · rintro ⟨n, ⟨⟨h1, h2⟩, _⟩, rfl⟩; exact ⟨n, rfl, h1, h2⟩
  · rintro ⟨n, rfl, h1, h2⟩; exact ⟨n, ⟨⟨h1, h2⟩, hp.prio _ (rdT_mem h1)⟩, rfl⟩
theorem ready_plain {ps : List S55} {ts : List S58} {t : S58} (hp : PlainOk ps ts) (ht : t ∈ ts) (m : List Int) : rfReady ps t m = true ↔ ∀ p : Nat, p < ps.length → wt t.f1 p ≤ rd m p := by
  rw [rfReady, List.all_eq_true]
  have key : ∀ p : Nat, p < ps.length → ((!rfBad ps t m p) = true ↔ wt t.f1 p ≤ rd m p) := fun p hpl => by
    have h3 : wt t.f3 p = 0 := by rw [hp.inh t ht]; rfl
    have h4 := hp.cap _ (rdP_mem hpl)
    rw [rfBad, h3, h4]
    simp
  exact ⟨fun h p hpl => (key p hpl).1 (h p (List.mem_range.2 hpl)), fun h p hpr => (key p (List.mem_range.1 hpr)).2 (h p (List.mem_range.1 hpr))⟩
theorem fires_mono {ps : List S55} {ts : List S58} (hp : PlainOk ps ts) {m m' : List Int} (h : ∀ p : Nat, p < ps.length → rd m p ≤ rd m' p) {t : Int} (ht : t ∈ firesN ps ts m) : t ∈ firesN ps ts m' := by
  obtain ⟨n, rfl, hn, hr⟩ := (fires_plain hp m t).1 ht
  refine (fires_plain hp m' _).2 ⟨n, rfl, hn, ?_⟩
  rw [ready_plain hp (rdT_mem hn)] at hr ⊢
  exact fun p hpl => Int.le_trans (hr p hpl) (h p hpl)
theorem mn_eq (a b : Int) : mn a b = if a < b then a else b := by unfold mn; split <;> first | rfl | omega
def sumN (a b : List Int) (n : Nat) : List Int := (List.range n).map fun p : Nat => mn (wrap64 (rd a p + rd b p)) 1048576
theorem sumN_succ (a b : List Int) (n : Nat) : sumN a b (n + 1) = sumN a b n ++ [mn (wrap64 (rd a n + rd b n)) 1048576] := by simp [sumN, List.range_succ]
theorem FiringGrows_ev (nm : ByteArray) (ps : List S55) (ts : List S58) (m more : List Int) (hm : m.length ≤ 9223372036854775807) (hs : more.length ≤ 9223372036854775807) : Ev (fun k => petrinetlaw11_FiringGrows.f k nm ps ts m more) true := by
  have ex : ∀ (nm : ByteArray) (ps : List S55) (ts : List S58), Ev (fun k => petrinetlaw11_FiringGrows.j0 k m more true nm ps ts) true := fun nm ps ts => by
    refine Ev.up ?_
    simp only [petrinetlaw11_FiringGrows.j0, if_true]
    exact Ev.bind example_ev (Ev.of fun _ => rfl)
  simp only [petrinetlaw11_FiringGrows.f, petrinetref09_Small.f]
  by_cases hsm : small nm ps ts
  · have h1 := hsm.1
    have h2 := hsm.2.1
    simp only [if_pos hsm, Option.bind_some, if_true]
    refine Ev.bind (plain_ev nm ps ts (by omega) (by omega)) ?_
    cases hpl : plainB nm ps ts with
    | false => simp only [if_neg (show ¬ (false = true) by decide)]; exact ex _ _ _
    | true =>
      obtain ⟨hP, hc⟩ := plainB_ok hpl
      simp only [if_true]
      refine Ev.bind (valid4_ev m ps.length hm) ?_
      cases hv : markB ps.length m with
      | false => simp only [if_neg (show ¬ (false = true) by decide)]; exact ex _ _ _
      | true =>
        simp only [if_true]
        refine Ev.bind (valid4_ev more ps.length hs) ?_
        cases hv2 : markB ps.length more with
        | false => simp only [Bool.not_false]; exact ex _ _ _
        | true =>
          have hM := markB_ok hv
          have hM2 := markB_ok hv2
          have hlm := hM.len
          have hlm2 := hM2.len
          simp only [Bool.not_true]
          refine Ev.up ?_
          simp only [petrinetlaw11_FiringGrows.j0, if_neg (show ¬ (false = true) by decide)]
          have key := Ev.loop m.length (fun k i => petrinetlaw11_FiringGrows.l0 k m more (sumN m more i) (i : Int) nm ps ts) (fun _ => true) (fun i hi ih => ?_) ?_ 0 (Nat.zero_le _)
          · simpa [sumN] using key
          · refine Ev.up ?_
            have hln : (sumN m more i).length = i := by simp [sumN]
            simp only [petrinetlaw11_FiringGrows.l0, if_pos (show (i : Int) < (m.length : Int) by omega), if_pos (show (0 : Int) ≤ (i : Int) by omega), if_pos (show (i : Int) < (more.length : Int) by omega), w_succ (show i < 9223372036854775807 by omega), if_pos (show (sumN m more i).length < 17592186044416 by omega)]
            rw [sumN_succ] at ih
            exact ih
          · refine Ev.up ?_
            simp only [petrinetlaw11_FiringGrows.l0, if_neg (show ¬ (m.length : Int) < (m.length : Int) by omega)]
            obtain ⟨sm, hsmE⟩ : ∃ sm, sumN m more m.length = sm := ⟨_, rfl⟩
            have hsl : sm.length = ps.length := by rw [← hsmE]; simp [sumN, hlm]
            have hrd : ∀ p : Nat, p < ps.length → rd sm p = (if rd m p + rd more p < 1048576 then rd m p + rd more p else 1048576) := fun p hp => by
              have b1 := hM.at_ (p : Int)
              have b2 := hM2.at_ (p : Int)
              rw [← hsmE, rd_nat, List.getD_eq_getElem?_getD, sumN, List.getElem?_map, List.getElem?_range (by omega)]
              show mn (wrap64 (rd m p + rd more p)) 1048576 = _
              rw [w_id (by omega) (by omega), mn_eq]
            have hle : ∀ p : Nat, p < ps.length → rd m p ≤ rd sm p := fun p hp => by
              have b1 := hM.at_ (p : Int)
              have b2 := hM2.at_ (p : Int)
              rw [hrd p hp]; split <;> omega
            have hmk : markB ps.length sm = true := by
              rw [markB, hsl, decide_eq_true rfl, Bool.true_and, List.all_eq_true]
              intro x hx
              obtain ⟨i, hi, rfl⟩ := List.getElem_of_mem hx
              have b1 := hM.at_ (i : Int)
              have b2 := hM2.at_ (i : Int)
              have := hrd i (by omega)
              rw [rd_nat, List.getD_eq_getElem?_getD, List.getElem?_eq_getElem hi] at this
              simp only [Option.getD_some] at this
              rw [this]
              split
              · simp; omega
              · simp
            have hf1 : fitB nm ps ts m = true := by rw [fitB, hc, hv]; rfl
            have hf2 : fitB nm ps ts sm = true := by rw [fitB, hc, hmk]; rfl
            rw [hsmE]
            refine Ev.bind (List_ev nm ps ts m hm) ?_
            have e1 : listR nm ps ts m = firesN ps ts m := by rw [listR, if_pos hf1]
            have e2 : listR nm ps ts sm = firesN ps ts sm := by rw [listR, if_pos hf2]
            rw [e1]
            obtain ⟨l, hl⟩ : ∃ l, firesN ps ts m = l := ⟨_, rfl⟩
            have hll : l.length ≤ 26 := by rw [← hl]; have := firesN_len ps ts m; omega
            have hsub : ∀ t ∈ l, t ∈ firesN ps ts sm := fun t ht => fires_mono hP hle (hl ▸ ht)
            rw [hl]
            refine Ev.loop l.length (fun k i => petrinetlaw11_FiringGrows.l1 k sm l (i : Int) nm ps ts) (fun _ => true) (fun i hi ih => ?_) ?_ 0 (Nat.zero_le _)
            · refine Ev.up ?_
              simp only [petrinetlaw11_FiringGrows.l1, if_pos (show (i : Int) < (l.length : Int) by omega), if_pos (show (0 : Int) ≤ (i : Int) by omega), w_succ (show i < 9223372036854775807 by omega)]
              refine Ev.bind (May_ev nm ps ts sm _ (by omega) (by omega)) ?_
              have : memB (listR nm ps ts sm) (rd l (i : Int)) = true := by rw [e2, memB_iff]; exact hsub _ (rd_mem hi)
              rw [this]
              simp only [if_true]; exact ih
            · refine Ev.up ?_
              simp only [petrinetlaw11_FiringGrows.l1, if_neg (show ¬ (l.length : Int) < (l.length : Int) by omega)]
              refine Ev.bind (dead_ev nm ps ts sm (by omega)) ?_
              cases hd : ((decide ((chkNet nm ps ts).1 = 0) && markB ps.length sm) && (firesN ps ts sm).isEmpty) with
              | false => simp only [if_neg (show ¬ (false = true) by decide)]; exact Ev.bind example_ev (Ev.of fun _ => rfl)
              | true =>
                rw [Bool.and_eq_true, List.isEmpty_iff] at hd
                have : l = [] := by
                  cases l with
                  | nil => rfl
                  | cons a r => have := hsub a List.mem_cons_self; rw [hd.2] at this; simp at this
                subst this
                simp only [if_true, List.length_nil, show ((0 : Nat) : Int) = 0 from rfl]
                exact Ev.bind example_ev (Ev.of fun _ => rfl)
  · simp only [if_neg hsm, Option.bind_some, if_neg (show ¬ (false = true) by decide)]
    exact ex _ _ _

end Go.Proofs.Ytiamncgagfjegaa.Hy
