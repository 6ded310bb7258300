/- By hand (fir_counts): a part of this seat's proofs. -/
import Derived.Test.YtiamncgagfjegaaXLaws
import Derived.Test.YtiamncgagfjegaaXRefParikh
import Derived.Test.YtiamncgagfjegaaH25
import Derived.Test.YtiamncgagfjegaaH0
import Derived.Test.YtiamncgagfjegaaXCheck
import Derived.Test.YtiamncgagfjegaaXRefChk
import Derived.Test.YtiamncgagfjegaaH7
import Derived.Test.YtiamncgagfjegaaXRef
namespace Go.Proofs.Ytiamncgagfjegaa.Hy
open Go.RowKit Go.Shelf Go.Proofs.YtiamncgagfjegaaW.PrintWords Go.Proofs.YtiamncgagfjegaaW.PrintLast Go.Proofs.YtiamncgagfjegaaW.PrintMore
set_option linter.unusedVariables false
set_option linter.unusedSimpArgs false
attribute [local go_sem] Oper.semAt_some
/-! ### FiringCounts -/
theorem drop_rdC {l : List Int} {i : Nat} (h : i < l.length) : l.drop i = rd l (i : Int) :: l.drop (i + 1) := by
  rw [rd, Int.toNat_natCast, List.getD_eq_getElem?_getD, List.getElem?_eq_getElem h]; exact List.drop_eq_getElem_cons h
theorem parikh_ev (nm : ByteArray) (ps : List S55) (ts : List S58) (seq : List Int) (hl2 : ts.length ≤ 1000) (hs : seq.length ≤ 9223372036854775807) : Ev (fun k => firing_Parikh.f k nm ps ts seq) (parR nm ps ts seq) := by
  simp only [firing_Parikh.f, net_Check.f, Option.bind_some]
  rw [parR]
  by_cases hc : (chkNet nm ps ts).1 = 0
  · simp only [if_pos hc, Int.toNat_natCast, if_pos (show (0 : Int) ≤ (ts.length : Int) by omega), if_pos (show ts.length ≤ 35184372088832 by omega)]
    rw [if_neg (by simp [hc])]
    have main : ∀ (r : List Int) (i : Nat) (o : List Int), o.length = ts.length → seq.drop i = r → i ≤ seq.length → Ev (fun k => firing_Parikh.l0 k o seq (seq.length : Int) (i : Int) nm ps ts) (parL ts.length o r) := by
      intro r
      induction r with
      | nil =>
        intro i o _ hd hi
        have : i = seq.length := by
          have := congrArg List.length hd
          simp at this; omega
        refine Ev.up ?_
        simp only [firing_Parikh.l0, if_neg (show ¬ (i : Int) < (seq.length : Int) by omega)]
        exact Ev.of fun _ => rfl
      | cons t r ih =>
        intro i o ho hd hi
        have hlt : i < seq.length := by
          have := congrArg List.length hd
          simp at this; omega
        rw [drop_rdC hlt] at hd
        injection hd with h1 h2
        refine Ev.up ?_
        simp only [firing_Parikh.l0, if_pos (show (i : Int) < (seq.length : Int) by omega), if_pos (show (0 : Int) ≤ (i : Int) by omega), w_succ (show i < 9223372036854775807 by omega), h1, parL]
        by_cases a : t < 0
        · simp only [if_pos a]; rw [if_pos (.inl a)]; exact Ev.of fun _ => rfl
        · simp only [if_neg a]
          by_cases b : t ≥ (ts.length : Int)
          · simp only [if_pos b]; rw [if_pos (.inr b)]; exact Ev.of fun _ => rfl
          · simp only [if_neg b, if_pos (show 0 ≤ t by omega), if_pos (show t < (o.length : Int) by omega)]
            rw [if_neg (by omega)]
            exact ih (i + 1) _ (by rw [List.length_set]; exact ho) h2 (by omega)
    exact main seq 0 _ (by simp) rfl (Nat.zero_le _)
  · simp only [if_neg hc]
    rw [if_pos hc]; exact Ev.of fun _ => rfl
end Go.Proofs.Ytiamncgagfjegaa.Hy
