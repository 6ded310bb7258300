/- By hand (fir_counts): a part of this seat's proofs. -/
import Derived.Test.YtiamncgagfjegaaXLaws
import Derived.Test.YtiamncgagfjegaaXRefParikh
import Derived.Test.YtiamncgagfjegaaH25
import Derived.Test.YtiamncgagfjegaaH26
import Derived.Test.YtiamncgagfjegaaH27
import Derived.Test.YtiamncgagfjegaaH28
import Derived.Test.YtiamncgagfjegaaH29
namespace Go.Proofs.Ytiamncgagfjegaa.Hy
open Go.RowKit Go.Shelf Go.Proofs.YtiamncgagfjegaaW.PrintWords Go.Proofs.YtiamncgagfjegaaW.PrintLast Go.Proofs.YtiamncgagfjegaaW.PrintMore
set_option linter.unusedVariables false
set_option linter.unusedSimpArgs false
attribute [local go_sem] Oper.semAt_some
/-! ### FiringCounts -/
theorem drop_rdC {l : List Int} {i : Nat} (h : i < l.length) : l.drop i = rd l (i : Int) :: l.drop (i + 1) := by
  rw [rd, Int.toNat_natCast, List.getD_eq_getElem?_getD, List.getElem?_eq_getElem h]; exact List.drop_eq_getElem_cons h
theorem parikh_ev (nm : ByteArray) (ps : List S55) (ts : List S58) (seq : List Int) (hl2 : ts.length ≤ 1000) (hs : seq.length ≤ 9223372036854775807) : Ev (fun k => firing_Parikh.f k nm ps ts seq) (parR nm ps ts seq) := by
  simp only [firing_Parikh.f, net_Check.f, Option.bind_some]
  rw [parR]
  by_cases hc : (chkNet nm ps ts).1 = 0
  · simp only [if_pos hc, Int.toNat_natCast, if_pos (show (0 : Int) ≤ (ts.length : Int) by omega), if_pos (show ts.length ≤ 35184372088832 by omega)]
    rw [if_neg (by simp [hc])]
    have main : ∀ (r : List Int) (i : Nat) (o : List Int), o.length = ts.length → seq.drop i = r → i ≤ seq.length → Ev (fun k => firing_Parikh.l0 k o seq (seq.length : Int) (i : Int) nm ps ts) (parL ts.length o r) := by
      intro r
      induction r with
      | nil =>
        intro i o _ hd hi
        have : i = seq.length := by
          have := congrArg List.length hd
          simp at this; omega
        refine Ev.up ?_
        simp only [firing_Parikh.l0, if_neg (show ¬ (i : Int) < (seq.length : Int) by omega)]
        exact Ev.of fun _ => rfl
      | cons t r ih =>
        intro i o ho hd hi
        have hlt : i < seq.length := by
          have := congrArg List.length hd
          simp at this; omega
        rw [drop_rdC hlt] at hd
        injection hd with h1 h2
        refine Ev.up ?_
        simp only [firing_Parikh.l0, if_pos (show (i : Int) < (seq.length : Int) by omega), if_pos (show (0 : Int) ≤ (i : Int) by omega), w_succ (show i < 9223372036854775807 by omega), h1, parL]
        by_cases a : t < 0
        · simp only [if_pos a]; rw [if_pos (.inl a)]; exact Ev.of fun _ => rfl
        · simp only [if_neg a]
          by_cases b : t ≥ (ts.length : Int)
          · simp only [if_pos b]; rw [if_pos (.inr b)]; exact Ev.of fun _ => rfl
          · simp only [if_neg b, if_pos (show 0 ≤ t by omega), if_pos (show t < (o.length : Int) by omega)]
            rw [if_neg (by omega)]
            exact ih (i + 1) _ (by rw [List.length_set]; exact ho) h2 (by omega)
    exact main seq 0 _ (by simp) rfl (Nat.zero_le _)
  · simp only [if_neg hc]
    rw [if_pos hc]; exact Ev.of fun _ => rfl
def namL (ts : List S58) : List ByteArray → List Int → List ByteArray × Int
  | o, [] => (o, 0)
  | o, t :: r => if t < 0 ∨ (ts.length : Int) ≤ t then ([], 1) else namL ts (o ++ [(rd_T58 ts t).f0]) r
def namR (nm : ByteArray) (ps : List S55) (ts : List S58) (seq : List Int) : List ByteArray × Int :=
  if (chkNet nm ps ts).1 ≠ 0 then ([], (chkNet nm ps ts).1) else namL ts [] seq
theorem namL_len (ts : List S58) : ∀ (r : List Int) (o : List ByteArray), (namL ts o r).1.length ≤ o.length + r.length := by
  intro r
  induction r with
  | nil => intro o; simp [namL]
  | cons t r ih =>
    intro o
    rw [namL]
    split
    · simp
    · have := ih (o ++ [(rd_T58 ts t).f0])
      simp only [List.length_append, List.length_cons, List.length_nil] at this ⊢
      omega
theorem names_ev (nm : ByteArray) (ps : List S55) (ts : List S58) (seq : List Int) (hs : seq.length ≤ 1000) : Ev (fun k => firing_Names.f k nm ps ts seq) (namR nm ps ts seq) := by
  simp only [firing_Names.f, net_Check.f, Option.bind_some]
  rw [namR]
  by_cases hc : (chkNet nm ps ts).1 = 0
  · simp only [if_pos hc]
    rw [if_neg (by simp [hc])]
    have main : ∀ (r : List Int) (i : Nat) (o : List ByteArray), o.length ≤ i → seq.drop i = r → i ≤ seq.length → Ev (fun k => firing_Names.l0 k o seq (seq.length : Int) (i : Int) nm ps ts) (namL ts o r) := by
      intro r
      induction r with
      | nil =>
        intro i o _ hd hi
        have : i = seq.length := by
          have := congrArg List.length hd
          simp at this; omega
        refine Ev.up ?_
        simp only [firing_Names.l0, if_neg (show ¬ (i : Int) < (seq.length : Int) by omega)]
        exact Ev.of fun _ => rfl
      | cons t r ih =>
        intro i o ho hd hi
        have hlt : i < seq.length := by
          have := congrArg List.length hd
          simp at this; omega
        rw [drop_rdC hlt] at hd
        injection hd with h1 h2
        refine Ev.up ?_
        simp only [firing_Names.l0, if_pos (show (i : Int) < (seq.length : Int) by omega), if_pos (show (0 : Int) ≤ (i : Int) by omega), w_succ (show i < 9223372036854775807 by omega), h1, namL]
        by_cases a : t < 0
        · simp only [if_pos a]; rw [if_pos (.inl a)]; exact Ev.of fun _ => rfl
        · simp only [if_neg a]
          by_cases b : t ≥ (ts.length : Int)
          · simp only [if_pos b]; rw [if_pos (.inr b)]; exact Ev.of fun _ => rfl
          · simp only [if_neg b, if_pos (show 0 ≤ t by omega), if_pos (show t < (ts.length : Int) by omega), if_pos (show o.length < 8796093022208 by omega)]
            rw [if_neg (by omega)]
            exact ih (i + 1) _ (by simp; omega) h2 (by omega)
    exact main seq 0 _ (by simp) rfl (Nat.zero_le _)
  · simp only [if_neg hc]
    rw [if_pos hc]; exact Ev.of fun _ => rfl
theorem refNames_ev (nm : ByteArray) (ps : List S55) (ts : List S58) (seq : List Int) (hs : seq.length ≤ 1000) : Ev (fun k => petrinetref11_Names.f k nm ps ts seq) (namR nm ps ts seq) := by
  simp only [petrinetref11_Names.f, petrinetref09_Check.f, Option.bind_some]
  rw [namR]
  by_cases hc : (chkNet nm ps ts).1 = 0
  · simp only [if_pos hc]
    rw [if_neg (by simp [hc])]
    have main : ∀ (r : List Int) (i : Nat) (o : List ByteArray), o.length ≤ i → seq.drop i = r → i ≤ seq.length → Ev (fun k => petrinetref11_Names.l0 k seq o (i : Int) nm ps ts) (namL ts o r) := by
      intro r
      induction r with
      | nil =>
        intro i o _ hd hi
        have : i = seq.length := by
          have := congrArg List.length hd
          simp at this; omega
        refine Ev.up ?_
        simp only [petrinetref11_Names.l0, if_neg (show ¬ (i : Int) < (seq.length : Int) by omega)]
        exact Ev.of fun _ => rfl
      | cons t r ih =>
        intro i o ho hd hi
        have hlt : i < seq.length := by
          have := congrArg List.length hd
          simp at this; omega
        rw [drop_rdC hlt] at hd
        injection hd with h1 h2
        refine Ev.up ?_
        simp only [petrinetref11_Names.l0, if_pos (show (i : Int) < (seq.length : Int) by omega), if_pos (show (0 : Int) ≤ (i : Int) by omega), w_succ (show i < 9223372036854775807 by omega), h1, namL]
        by_cases a : t < 0
        · simp only [if_pos a]; rw [if_pos (.inl a)]; exact Ev.of fun _ => rfl
        · simp only [if_neg a]
          by_cases b : t ≥ (ts.length : Int)
          · simp only [if_pos b]; rw [if_pos (.inr b)]; exact Ev.of fun _ => rfl
          · simp only [if_neg b, if_pos (show 0 ≤ t by omega), if_pos (show t < (ts.length : Int) by omega), if_pos (show o.length < 8796093022208 by omega)]
            rw [if_neg (by omega)]
            exact ih (i + 1) _ (by simp; omega) h2 (by omega)
    exact main seq 0 _ (by simp) rfl (Nat.zero_le _)
  · simp only [if_neg hc]
    rw [if_pos hc]; exact Ev.of fun _ => rfl
theorem numbers_ev (l : List Int) (hl : l.length ≤ 9223372036854775807) : Ev (fun k => petrinetlaw11_numbers.f k l l) true := by
  simp only [petrinetlaw11_numbers.f, if_true]
  refine Ev.loop l.length (fun k i => petrinetlaw11_numbers.l0 k l l (i : Int)) (fun _ => true) (fun i hi ih => ?_) ?_ 0 (Nat.zero_le _)
  · refine Ev.up ?_
    simp only [petrinetlaw11_numbers.l0, if_pos (show (i : Int) < (l.length : Int) by omega), if_pos (show (0 : Int) ≤ (i : Int) by omega), w_succ (show i < 9223372036854775807 by omega), if_true]
    exact ih
  · refine Ev.up ?_
    simp only [petrinetlaw11_numbers.l0, if_neg (show ¬ (l.length : Int) < (l.length : Int) by omega)]
    exact Ev.of fun _ => rfl
theorem strings_ev (l : List ByteArray) (hl : l.length ≤ 9223372036854775807) : Ev (fun k => petrinetlaw11_strings.f k l l) true := by
  simp only [petrinetlaw11_strings.f, if_true]
  refine Ev.loop l.length (fun k i => petrinetlaw11_strings.l0 k l l (i : Int)) (fun _ => true) (fun i hi ih => ?_) ?_ 0 (Nat.zero_le _)
  · refine Ev.up ?_
    simp only [petrinetlaw11_strings.l0, if_pos (show (i : Int) < (l.length : Int) by omega), if_pos (show (0 : Int) ≤ (i : Int) by omega), w_succ (show i < 9223372036854775807 by omega), if_true]
    exact ih
  · refine Ev.up ?_
    simp only [petrinetlaw11_strings.l0, if_neg (show ¬ (l.length : Int) < (l.length : Int) by omega)]
    exact Ev.of fun _ => rfl
theorem parL_len (n : Nat) : ∀ (r o : List Int), (parL n o r).1.length ≤ o.length := by
  intro r
  induction r with
  | nil => intro o; simp [parL]
  | cons t r ih =>
    intro o
    rw [parL]
    split
    · simp
    · have := ih (o.set t.toNat (wrap64 (rd o t + 1)))
      rw [List.length_set] at this
      exact this
theorem FiringCounts_ev (nm : ByteArray) (ps : List S55) (ts : List S58) (seq : List Int) (hs : seq.length ≤ 9223372036854775807) : Ev (fun k => petrinetlaw11_FiringCounts.f k nm ps ts seq) true := by
  have ex : ∀ (nm : ByteArray) (ps : List S55) (ts : List S58), Ev (fun k => petrinetlaw11_FiringCounts.j0 k seq true nm ps ts) true := fun nm ps ts => by
    refine Ev.up ?_
    simp only [petrinetlaw11_FiringCounts.j0, if_true]
    exact Ev.bind example_ev (Ev.of fun _ => rfl)
  simp only [petrinetlaw11_FiringCounts.f, petrinetref09_Small.f]
  by_cases hsm : small nm ps ts
  · have h1 := hsm.1
    have h2 := hsm.2.1
    simp only [if_pos hsm, Option.bind_some, if_true]
    cases hb : decide ((seq.length : Int) > 200) with
    | true => exact ex nm ps ts
    | false =>
      have hs2 : seq.length ≤ 200 := by have := of_decide_eq_false hb; omega
      have hP : petrinetref11_Parikh.f nm ps ts seq = some (parR nm ps ts seq) := if_pos (by omega)
      refine Ev.up ?_
      simp only [petrinetlaw11_FiringCounts.j0, if_neg (show ¬ (false = true) by decide)]
      refine Ev.bind (parikh_ev nm ps ts seq (by omega) hs) ?_
      simp only [hP, Option.bind_some]
      refine Ev.bind (names_ev nm ps ts seq (by omega)) ?_
      refine Ev.bind (refNames_ev nm ps ts seq (by omega)) ?_
      have hlen : (parR nm ps ts seq).1.length ≤ 1000 := by
        rw [parR]
        split
        · simp
        · have := parL_len ts.length seq (List.replicate ts.length 0)
          rw [List.length_replicate] at this
          omega
      have hlen2 : (namR nm ps ts seq).1.length ≤ 1000 := by
        rw [namR]
        split
        · simp
        · have := namL_len ts seq []
          simp only [List.length_nil] at this
          omega
      refine Ev.bind (numbers_ev _ (by omega)) ?_
      simp only [if_true]
      refine Ev.bind (strings_ev _ (by omega)) ?_
      simp only [if_true]
      exact Ev.bind example_ev (Ev.of fun _ => rfl)
  · simp only [if_neg hsm, Option.bind_some, if_neg (show ¬ (false = true) by decide)]
    exact ex _ _ _

end Go.Proofs.Ytiamncgagfjegaa.Hy
