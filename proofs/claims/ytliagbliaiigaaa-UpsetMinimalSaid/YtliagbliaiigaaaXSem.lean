/- By hand (up_sem): a part of this seat's proofs. -/
import Derived.Test.YtliagbliaiigaaaXUps
namespace Go.Proofs.Ytliagbliaiigaaa.Hy
open Go.RowKit Go.Shelf Go.Proofs.YtliagbliaiigaaaW.PrintWords Go.Proofs.YtliagbliaiigaaaW.PrintLast Go.Proofs.YtliagbliaiigaaaW.PrintMore
set_option linter.unusedVariables false
set_option linter.unusedSimpArgs false
attribute [local go_sem] Oper.semAt_some
/-! ### upward-closed sets, plainly -/
theorem leqL_length : ∀ {a b : List Int}, leqL a b = true → a.length = b.length := by
  intro a b h
  rcases Nat.lt_trichotomy a.length b.length with h1 | h1 | h1
  · rw [leqL_len a b (by omega)] at h; cases h
  · exact h1
  · rw [leqL_len a b (by omega)] at h; cases h
theorem leqL_trans : ∀ {a b c : List Int}, leqL a b = true → leqL b c = true → leqL a c = true
  | [], [], _, _, h => h
  | [], _ :: _, _, h, _ => by cases h
  | _ :: _, [], _, h, _ => by cases h
  | _ :: _, _ :: _, [], _, h => by cases h
  | a :: x, b :: y, c :: z, h1, h2 => by
    simp only [leqL, Bool.and_eq_true, decide_eq_true_eq] at h1 h2 ⊢
    exact ⟨by omega, leqL_trans h1.2 h2.2⟩
theorem leqL_antisymm : ∀ {a b : List Int}, leqL a b = true → leqL b a = true → a = b
  | [], [], _, _ => rfl
  | [], _ :: _, h, _ => by cases h
  | _ :: _, [], h, _ => by cases h
  | a :: x, b :: y, h1, h2 => by
    simp only [leqL, Bool.and_eq_true, decide_eq_true_eq] at h1 h2
    rw [leqL_antisymm h1.2 h2.2, show a = b by omega]
structure Base (out us : List (List Int)) : Prop where
  sub : ∀ x ∈ out, x ∈ us
  cov : ∀ y ∈ us, ∃ x ∈ out, leqL x y = true
  anti : ∀ x ∈ out, ∀ y ∈ out, leqL x y = true → x = y
theorem mem_ins {o : List (List Int)} {m x : List Int} {k : Nat} : x ∈ o.take k ++ m :: o.drop k ↔ x = m ∨ x ∈ o := by
  rw [List.mem_append, List.mem_cons]
  constructor
  · rintro (h | h | h)
    · exact .inr (List.mem_of_mem_take h)
    · exact .inl h
    · exact .inr (List.mem_of_mem_drop h)
  · rintro (h | h)
    · exact .inr (.inl h)
    · rw [← List.take_append_drop k o] at h
      rcases List.mem_append.1 h with h | h
      · exact .inl h
      · exact .inr (.inr h)
theorem base_step {out us : List (List Int)} (h : Base out us) (m : List Int) : Base (stepL out m) (us ++ [m]) := by
  unfold stepL
  split
  · rename_i hany
    obtain ⟨x0, hx0, hle⟩ := List.any_eq_true.1 hany
    refine ⟨fun x hx => List.mem_append_left _ (h.sub x hx), fun y hy => ?_, h.anti⟩
    rcases List.mem_append.1 hy with hy | hy
    · exact h.cov y hy
    · rw [List.mem_singleton.1 hy]; exact ⟨x0, hx0, hle⟩
  · rename_i hany
    have hno : ∀ x ∈ out, leqL x m = false := fun x hx => by
      cases e : leqL x m with
      | false => rfl
      | true => exact absurd (List.any_eq_true.2 ⟨x, hx, e⟩) hany
    refine ⟨fun x hx => ?_, fun y hy => ?_, fun x hx y hy hle => ?_⟩
    · rcases mem_ins.1 hx with rfl | hx
      · simp
      · exact List.mem_append_left _ (h.sub x (List.mem_filter.1 hx).1)
    · rcases List.mem_append.1 hy with hy | hy
      · obtain ⟨x, hx, hle⟩ := h.cov y hy
        cases e : leqL m x with
        | true => exact ⟨m, mem_ins.2 (.inl rfl), leqL_trans e hle⟩
        | false => exact ⟨x, mem_ins.2 (.inr (List.mem_filter.2 ⟨hx, by simp [e]⟩)), hle⟩
      · rw [List.mem_singleton.1 hy]; exact ⟨m, mem_ins.2 (.inl rfl), leqL_refl m⟩
    · rcases mem_ins.1 hx with rfl | hx
      · rcases mem_ins.1 hy with rfl | hy
        · rfl
        · have := (List.mem_filter.1 hy).2
          rw [hle] at this; simp at this
      · have hx' := (List.mem_filter.1 hx).1
        rcases mem_ins.1 hy with rfl | hy
        · rw [hno x hx'] at hle; cases hle
        · exact h.anti x hx' y (List.mem_filter.1 hy).1 hle
theorem base_fold : ∀ (us out pre : List (List Int)), Base out pre → Base (us.foldl stepL out) (pre ++ us)
  | [], _, pre, h => by simpa using h
  | m :: r, out, pre, h => by
    have := base_fold r (stepL out m) (pre ++ [m]) (base_step h m)
    simpa using this
theorem base_make (l : List (List Int)) : Base (makeL l) (useL l) := by
  have := base_fold (useL l) [] [] ⟨by simp, by simp, by simp⟩
  simpa [makeL] using this
theorem sorted_make (l : List (List Int)) : Sorted (makeL l) := fold_sorted _ _ List.Pairwise.nil
theorem base_iff {out us : List (List Int)} (h : Base out us) (x : List Int) : x ∈ out ↔ x ∈ us ∧ ∀ y ∈ us, leqL y x = true → y = x := by
  constructor
  · intro hx
    refine ⟨h.sub x hx, fun y hy hle => ?_⟩
    obtain ⟨z, hz, hzy⟩ := h.cov y hy
    have e := h.anti z hz x hx (leqL_trans hzy hle)
    subst e
    exact leqL_antisymm hle hzy
  · rintro ⟨hx, hm⟩
    obtain ⟨z, hz, hzx⟩ := h.cov x hx
    have := hm z (h.sub z hz) hzx
    rwa [← this]
theorem sorted_ext : ∀ {a b : List (List Int)}, Sorted a → Sorted b → (∀ x, x ∈ a ↔ x ∈ b) → a = b
  | [], [], _, _, _ => rfl
  | [], y :: _, _, _, h => by have := (h y).2 List.mem_cons_self; cases this
  | x :: _, [], _, _, h => by have := (h x).1 List.mem_cons_self; cases this
  | x :: r, y :: s, ha, hb, h => by
    have ha' := List.pairwise_cons.1 ha
    have hb' := List.pairwise_cons.1 hb
    have irr : ∀ z : List Int, ¬ cmpL z z < 0 := fun z => by rw [cmpL_refl]; omega
    have e : x = y := by
      rcases List.mem_cons.1 ((h x).1 List.mem_cons_self) with e | hx
      · exact e
      · rcases List.mem_cons.1 ((h y).2 List.mem_cons_self) with e | hy
        · exact e.symm
        · exact absurd (cmpL_trans (ha'.1 y hy) (hb'.1 x hx)) (irr x)
    subst e
    congr 1
    refine sorted_ext ha'.2 hb'.2 fun z => ?_
    constructor
    · intro hz
      rcases List.mem_cons.1 ((h z).1 (List.mem_cons_of_mem _ hz)) with e | hz'
      · subst e; exact absurd (ha'.1 z hz) (irr z)
      · exact hz'
    · intro hz
      rcases List.mem_cons.1 ((h z).2 (List.mem_cons_of_mem _ hz)) with e | hz'
      · subst e; exact absurd (hb'.1 z hz) (irr z)
      · exact hz'
theorem base_uniq {a b us vs : List (List Int)} (ha : Base a us) (hb : Base b vs) (hsa : Sorted a) (hsb : Sorted b) (h : ∀ x, x ∈ us ↔ x ∈ vs) : a = b := by
  refine sorted_ext hsa hsb fun x => ?_
  rw [base_iff ha, base_iff hb, h x]
  exact and_congr_right fun _ => ⟨fun hm y hy => hm y ((h y).2 hy), fun hm y hy => hm y ((h y).1 hy)⟩
theorem useL_same {l : List (List Int)} (x y : List Int) (hx : x ∈ useL l) (hy : y ∈ useL l) : x.length = y.length := by
  unfold useL at hx hy
  cases hf : l.find? goodB with
  | none => rw [hf] at hx; cases hx
  | some m0 =>
    rw [hf] at hx hy
    simp only [List.mem_filter, Bool.and_eq_true, decide_eq_true_eq] at hx hy
    omega
/-- a list of good markings of one length is used whole -/
theorem useL_id {l : List (List Int)} (hg : ∀ m ∈ l, 1 ≤ m.length ∧ m.length ≤ 24 ∧ vldL m = true) (hs : ∀ x ∈ l, ∀ y ∈ l, x.length = y.length) : useL l = l := by
  cases l with
  | nil => rfl
  | cons m r =>
    have h0 := hg m List.mem_cons_self
    have e : (m :: r).find? goodB = some m := by
      rw [List.find?_cons_of_pos]
      simp [goodB, h0.1, h0.2.1, h0.2.2]
    unfold useL
    rw [e]
    simp only
    rw [List.filter_eq_self]
    intro x hx
    have h1 := hg x hx
    have h2 := hs x hx m List.mem_cons_self
    simp [h1.2.2, h2]
theorem make_same {l : List (List Int)} {x y : List Int} (hx : x ∈ makeL l) (hy : y ∈ makeL l) : x.length = y.length :=
  useL_same x y ((base_make l).sub x hx) ((base_make l).sub y hy)
theorem use_make (l : List (List Int)) : useL (makeL l) = makeL l :=
  useL_id (fun m hm => (makeL_mem hm).2) (fun x hx y hy => make_same hx hy)
theorem make_make (l : List (List Int)) : makeL (makeL l) = makeL l := by
  have h1 := base_make (makeL l)
  rw [use_make] at h1
  exact base_uniq h1 (⟨fun x hx => hx, fun y hy => ⟨y, hy, leqL_refl y⟩, (base_make l).anti⟩ : Base (makeL l) (makeL l)) (sorted_make _) (sorted_make _) (fun _ => Iff.rfl)
theorem hasL_iff (l : List (List Int)) (x : List Int) : hasL l x = true ↔ vldL x = true ∧ ∃ y ∈ useL l, leqL y x = true := by
  unfold hasL
  rw [Bool.and_eq_true, List.any_eq_true]
  refine and_congr_right fun _ => ⟨fun ⟨y, hy, h⟩ => ⟨y, (base_make l).sub y hy, h⟩, fun ⟨y, hy, h⟩ => ?_⟩
  obtain ⟨z, hz, hzy⟩ := (base_make l).cov y hy
  exact ⟨z, hz, leqL_trans hzy h⟩
theorem hasL_make (l : List (List Int)) (x : List Int) : hasL (makeL l) x = hasL l x := by
  unfold hasL; rw [make_make]
theorem hasL_up {l : List (List Int)} {x y : List Int} (h : hasL l x = true) (hle : leqL x y = true) (hv : vldL y = true) : hasL l y = true := by
  rw [hasL_iff] at h ⊢
  obtain ⟨_, z, hz, hzx⟩ := h
  exact ⟨hv, z, hz, leqL_trans hzx hle⟩
theorem hasL_mem {l : List (List Int)} {x : List Int} (h : x ∈ makeL l) : hasL l x = true := by
  rw [hasL_iff]
  exact ⟨(makeL_mem h).2.2.2, x, (base_make l).sub x h, leqL_refl x⟩
theorem subL_iff (a b : List (List Int)) : subL a b = true ↔ ∀ x, hasL a x = true → hasL b x = true := by
  unfold subL
  rw [Bool.not_eq_true', List.any_eq_false]
  constructor
  · intro h x hx
    have hx' := hx
    unfold hasL at hx'
    rw [Bool.and_eq_true, List.any_eq_true] at hx'
    obtain ⟨hv, y, hy, hle⟩ := hx'
    have := h y hy
    simp only [Bool.not_eq_true', Bool.not_eq_false, hasL_make] at this
    exact hasL_up this hle hv
  · intro h y hy
    simp only [Bool.not_eq_true', Bool.not_eq_false, hasL_make]
    exact h y (hasL_mem hy)
/-- equal sets have the same base -/
theorem make_eq {a b : List (List Int)} (h1 : subL a b = true) (h2 : subL b a = true) : makeL a = makeL b := by
  rw [subL_iff] at h1 h2
  have key : ∀ {a b : List (List Int)}, (∀ x, hasL a x = true → hasL b x = true) → (∀ x, hasL b x = true → hasL a x = true) → ∀ x, x ∈ makeL a → x ∈ makeL b := by
    intro a b h1 h2 x hx
    have hb := h1 x (hasL_mem hx)
    unfold hasL at hb
    rw [Bool.and_eq_true, List.any_eq_true] at hb
    obtain ⟨hv, y, hy, hyx⟩ := hb
    have ha := h2 y (hasL_mem hy)
    unfold hasL at ha
    rw [Bool.and_eq_true, List.any_eq_true] at ha
    obtain ⟨_, z, hz, hzy⟩ := ha
    have e := (base_make a).anti z hz x hx (leqL_trans hzy hyx)
    subst e
    rw [leqL_antisymm hzy hyx]
    exact hy
  exact sorted_ext (sorted_make a) (sorted_make b) fun x => ⟨key h1 h2 x, key h2 h1 x⟩

end Go.Proofs.Ytliagbliaiigaaa.Hy
