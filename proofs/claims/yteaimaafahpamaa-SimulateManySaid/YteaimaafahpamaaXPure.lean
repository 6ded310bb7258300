/- By hand (evloop, chk_small, fir_pure): a part of this seat's proofs. -/
import Derived.Test.YteaimaafahpamaaXFir
import Derived.Test.YteaimaafahpamaaXRef
import Derived.Test.YteaimaafahpamaaXRefChk
namespace Go.Proofs.Yteaimaafahpamaa.Hy
open Go.RowKit Go.Shelf Go.Proofs.YteaimaafahpamaaW.PrintWords Go.Proofs.YteaimaafahpamaaW.PrintLast Go.Proofs.YteaimaafahpamaaW.PrintMore
set_option linter.unusedVariables false
set_option linter.unusedSimpArgs false
attribute [local go_sem] Oper.semAt_some
theorem Ev.congr {α : Type} {x y : Nat → Option α} {v : α} (h : Ev y v) (e : ∀ k, x k = y k) : Ev x v := by
  obtain ⟨K, h⟩ := h
  exact ⟨K, fun k hk => (e k).trans (h k hk)⟩
theorem Ev.val {α : Type} {v v' : α} (e : v = v') : Ev (fun _ => some v) v' := Ev.of fun _ => by rw [e]
/-- a loop that counts up to N -/
theorem Ev.loop {α : Type} (N : Nat) (g : Nat → Nat → Option α) (r : Nat → α) (step : ∀ i, i < N → Ev (fun k => g k (i + 1)) (r (i + 1)) → Ev (fun k => g k i) (r i)) (done : Ev (fun k => g k N) (r N)) : ∀ i, i ≤ N → Ev (fun k => g k i) (r i) := by
  intro i hi
  obtain ⟨m, rfl⟩ : ∃ m, N = i + m := ⟨N - i, by omega⟩
  clear hi
  induction m generalizing i with
  | zero => exact done
  | succ m ih =>
    refine step i (by omega) ?_
    have h := ih (i + 1) (by have e : i + 1 + m = i + (m + 1) := by omega
                             rw [e]; exact step) (by have e : i + 1 + m = i + (m + 1) := by omega
                                                     rw [e]; exact done)
    exact h
theorem any_nm (ns : List ByteArray) (s : ByteArray) : (ns.any fun y => y.toList == s.toList) = true ↔ ∃ y ∈ ns, y.toList = s.toList := by
  rw [List.any_eq_true]
  constructor
  · rintro ⟨y, hy, h⟩; exact ⟨y, hy, by simpa using h⟩
  · rintro ⟨y, hy, h⟩; exact ⟨y, hy, by simpa using h⟩

theorem bt_c (s : ByteArray) (i : Nat) (h : i < s.size) : bt s (i : Int) = (((s.data.toList.getD i 0).toNat : Nat) : Int) := by
  rw [bt, dif_pos (by simpa using h)]
  have hg : (s.data.toList.getD i 0) = s[i]'h := by
    rw [List.getD_eq_getElem?_getD, List.getElem?_eq_getElem (by simpa using h)]; rfl
  rw [hg]; rfl
theorem range_drop {n i : Nat} (h : i < n) : (List.range n).drop i = i :: (List.range n).drop (i + 1) := by
  rw [List.drop_eq_getElem_cons (by simpa using h), List.getElem_range]
/-- the lists of a net's transitions are no longer than any slice -/
def lenOk (ts : List S68) : Prop := ∀ t ∈ ts, t.f1.length ≤ 9223372036854775807 ∧ t.f2.length ≤ 9223372036854775807 ∧ t.f3.length ≤ 9223372036854775807
theorem rdT_mem {ts : List S68} {i : Nat} (h : i < ts.length) : rd_T68 ts (i : Int) ∈ ts := by
  rw [rd_T68, Int.toNat_natCast, List.getD_eq_getElem?_getD, List.getElem?_eq_getElem h]; exact List.getElem_mem h
theorem rdP_mem {ps : List S65} {i : Nat} (h : i < ps.length) : rd_T65 ps (i : Int) ∈ ps := by
  rw [rd_T65, Int.toNat_natCast, List.getD_eq_getElem?_getD, List.getElem?_eq_getElem h]; exact List.getElem_mem h
theorem refCheck_ev (nm : ByteArray) (ps : List S65) (ts : List S68) (hl : ps.length ≤ 9223372036854775807) (hl2 : ts.length ≤ 9223372036854775807) (hk : lenOk ts) : Ev (fun _ => petrinetref09_Check.f nm ps ts) (chkNet nm ps ts) := Ev.of fun _ => rfl

/-! ### valid nets, as lists -/
structure ArcsOk (P : Int) (l : List S70) : Prop where
  bd : ∀ a ∈ l, 0 ≤ a.f0 ∧ a.f0 < P ∧ 1 ≤ a.f1 ∧ a.f1 ≤ 99
  asc : l.Pairwise fun a b => a.f0 < b.f0
theorem chkArcs_ok (P : Int) : ∀ (l : List S70) (prev : Option Int), chkArcs P prev l = 0 → (∀ q, prev = some q → ∀ a ∈ l, q < a.f0) ∧ ArcsOk P l := by
  intro l
  induction l with
  | nil => intro prev _; exact ⟨fun _ _ a ha => by simp at ha, ⟨by simp, List.Pairwise.nil⟩⟩
  | cons a l ih =>
    intro prev h
    rw [chkArcs] at h
    by_cases h1 : a.f0 < 0 ∨ P ≤ a.f0
    · rw [if_pos h1] at h; omega
    · rw [if_neg h1] at h
      by_cases h2 : ∃ q, prev = some q ∧ a.f0 ≤ q
      · rw [if_pos h2] at h; omega
      · rw [if_neg h2] at h
        by_cases h3 : a.f1 < 1 ∨ 99 < a.f1
        · rw [if_pos h3] at h; omega
        · rw [if_neg h3] at h
          obtain ⟨i1, i2⟩ := ih _ h
          have i3 := i1 _ rfl
          have hq : ∀ q, prev = some q → q < a.f0 := fun q hq => by
            by_cases h4 : a.f0 ≤ q
            · exact absurd ⟨q, hq, h4⟩ h2
            · omega
          refine ⟨fun q hp b hb => ?_, ⟨fun b hb => ?_, List.Pairwise.cons i3 i2.asc⟩⟩
          · rcases List.mem_cons.1 hb with rfl | hb
            · exact hq q hp
            · have := i3 b hb; have := hq q hp; omega
          · rcases List.mem_cons.1 hb with rfl | hb
            · omega
            · exact i2.bd b hb
structure TransOk (P : Int) (t : S68) : Prop where
  pre : ArcsOk P t.f1
  post : ArcsOk P t.f2
  inh : ArcsOk P t.f3
  prio : 0 ≤ t.f4 ∧ t.f4 ≤ 9
theorem chkTrans_ok {P : Int} {t : S68} (h : chkTrans P t = 0) : TransOk P t := by
  rw [chkTrans] at h
  by_cases h1 : t.f4 < 0 ∨ 9 < t.f4
  · rw [if_pos h1] at h; omega
  · rw [if_neg h1] at h
    by_cases h2 : chkArcs P none t.f1 = 0
    · rw [if_neg (by simp [h2])] at h
      by_cases h3 : chkArcs P none t.f2 = 0
      · rw [if_neg (by simp [h3])] at h
        exact ⟨(chkArcs_ok P _ _ h2).2, (chkArcs_ok P _ _ h3).2, (chkArcs_ok P _ _ h).2, by omega, by omega⟩
      · rw [if_pos h3] at h; exact absurd h h3
    · rw [if_pos h2] at h; exact absurd h h2
structure PlaceOk (p : S65) : Prop where
  cap : 0 ≤ p.f2 ∧ p.f2 ≤ 1048576
  init : 0 ≤ p.f1 ∧ p.f1 ≤ 1048576
  fit : p.f2 ≠ 0 → p.f1 ≤ p.f2
theorem chkPlace_ok {p : S65} (h : chkPlace p = 0) : PlaceOk p := by
  rw [chkPlace] at h
  by_cases h1 : p.f2 < 0 ∨ 1048576 < p.f2
  · rw [if_pos h1] at h; omega
  · rw [if_neg h1] at h
    by_cases h2 : p.f1 < 0 ∨ 1048576 < p.f1 ∨ (p.f2 ≠ 0 ∧ p.f2 < p.f1)
    · rw [if_pos h2] at h; omega
    · exact ⟨by omega, by omega, by omega⟩
structure NetOk (ps : List S65) (ts : List S68) : Prop where
  np : 1 ≤ ps.length ∧ ps.length ≤ 24
  nt : ts.length ≤ 24
  pl : ∀ p ∈ ps, PlaceOk p
  tr : ∀ t ∈ ts, TransOk (ps.length : Int) t
  dis : (nmP ps ++ nmT ts).Pairwise fun a b => a.toList ≠ b.toList
  nms : ∀ s ∈ nmP ps ++ nmT ts, nameB s = true
theorem addC_zero {names : List ByteArray} {s : ByteArray} (h : addC names s = 0) : nameB s = true ∧ ∀ y ∈ names, y.toList ≠ s.toList := by
  rw [addC] at h
  cases hn : nameB s with
  | false => rw [hn] at h; simp at h
  | true =>
    rw [hn] at h
    refine ⟨rfl, fun y hy he => ?_⟩
    rw [if_pos rfl, if_pos ((any_nm names s).2 ⟨y, hy, he⟩)] at h
    omega
theorem plE_ok {names : List ByteArray} {p : S65} (h : plE names p = 0) : addC names p.f0 = 0 ∧ chkPlace p = 0 := by
  rw [plE] at h
  by_cases hc : addC names p.f0 = 0
  · rw [if_pos hc] at h; exact ⟨hc, h⟩
  · rw [if_neg hc] at h; exact absurd h hc
theorem trE_ok {P : Int} {names : List ByteArray} {t : S68} (h : trE P names t = 0) : addC names t.f0 = 0 ∧ chkTrans P t = 0 := by
  rw [trE] at h
  by_cases hc : addC names t.f0 = 0
  · rw [if_pos hc] at h; exact ⟨hc, h⟩
  · rw [if_neg hc] at h; exact absurd h hc
def NmOk (names : List ByteArray) : Prop := names.Pairwise (fun a b => a.toList ≠ b.toList) ∧ ∀ s ∈ names, nameB s = true
theorem NmOk.snoc {names : List ByteArray} {s : ByteArray} (h : NmOk names) (hc : addC names s = 0) : NmOk (names ++ [s]) := by
  obtain ⟨h1, h2⟩ := addC_zero hc
  refine ⟨List.pairwise_append.2 ⟨h.1, List.pairwise_singleton _ _, fun a ha b hb => ?_⟩, fun y hy => ?_⟩
  · rw [List.mem_singleton.1 hb]; exact h2 a ha
  · rcases List.mem_append.1 hy with hy | hy
    · exact h.2 y hy
    · rw [List.mem_singleton.1 hy]; exact h1
theorem goPl_ok : ∀ (ps : List S65) (i : Nat) (names : List ByteArray), NmOk names → (∀ r, goPl i names ps = .inl r → r.1 ≠ 0) ∧ (∀ ns, goPl i names ps = .inr ns → ns = names ++ nmP ps ∧ NmOk ns ∧ ∀ p ∈ ps, PlaceOk p) := by
  intro ps
  induction ps with
  | nil => intro i names hN; exact ⟨fun r h => by simp [goPl] at h, fun ns h => by simp only [goPl, Sum.inr.injEq] at h; subst h; exact ⟨by simp [nmP], hN, by simp⟩⟩
  | cons p ps ih =>
    intro i names hN
    rw [goPl]
    by_cases h : plE names p = 0
    · rw [if_pos h, plE_zero h]
      obtain ⟨i1, i2⟩ := ih (i + 1) (names ++ [p.f0]) (hN.snoc (plE_ok h).1)
      refine ⟨i1, fun ns hns => ?_⟩
      obtain ⟨e1, e2, e3⟩ := i2 ns hns
      refine ⟨by rw [e1]; simp [nmP], e2, fun q hq => ?_⟩
      rcases List.mem_cons.1 hq with rfl | hq
      · exact chkPlace_ok (plE_ok h).2
      · exact e3 q hq
    · rw [if_neg h]
      exact ⟨fun r hr => by injection hr with hr; rw [← hr]; exact h, fun ns hns => by cases hns⟩
theorem goTr_ok (P : Int) : ∀ (ts : List S68) (i : Nat) (names : List ByteArray), NmOk names → (goTr P i names ts).1 = 0 → goTr P i names ts = (0, 0) ∧ NmOk (names ++ nmT ts) ∧ ∀ t ∈ ts, TransOk P t := by
  intro ts
  induction ts with
  | nil => intro i names hN _; exact ⟨by simp [goTr], by simpa [nmT] using hN, by simp⟩
  | cons t ts ih =>
    intro i names hN
    rw [goTr]
    by_cases h : trE P names t = 0
    · rw [if_pos h, trE_zero h]
      intro h0
      obtain ⟨e0, e2, e3⟩ := ih (i + 1) (names ++ [t.f0]) (hN.snoc (trE_ok h).1) h0
      refine ⟨e0, by simpa [nmT] using e2, fun q hq => ?_⟩
      rcases List.mem_cons.1 hq with rfl | hq
      · exact chkTrans_ok (trE_ok h).2
      · exact e3 q hq
    · rw [if_neg h]; intro h0; exact absurd h0 h
theorem chkNet_ok {nm : ByteArray} {ps : List S65} {ts : List S68} (h : (chkNet nm ps ts).1 = 0) : chkNet nm ps ts = (0, 0) ∧ NetOk ps ts := by
  rw [chkNet] at h ⊢
  by_cases h1 : nameB nm = false
  · rw [if_pos h1] at h; simp at h
  · rw [if_neg h1] at h ⊢
    by_cases h2 : ps.length < 1 ∨ 24 < ps.length ∨ 24 < ts.length
    · rw [if_pos h2] at h; simp at h
    · rw [if_neg h2] at h ⊢
      obtain ⟨g1, g2⟩ := goPl_ok ps 0 [] ⟨List.Pairwise.nil, by simp⟩
      cases hg : goPl 0 [] ps with
      | inl r => rw [hg] at h; exact absurd h (g1 r hg)
      | inr ns =>
        rw [hg] at h
        obtain ⟨e1, e2, e3⟩ := g2 ns hg
        obtain ⟨f0, f1, f2⟩ := goTr_ok _ ts 0 ns e2 h
        rw [e1, List.nil_append] at f1
        exact ⟨f0, ⟨by omega, by omega, e3, f2, f1.1, f1.2⟩⟩
/-! ### weights, and the change of a marking -/
theorem wt_mem {P : Int} {l : List S70} (h : ArcsOk P l) {a : S70} (ha : a ∈ l) : wt l a.f0 = a.f1 := by
  induction l with
  | nil => simp at ha
  | cons b l ih =>
    have ha2 := (List.pairwise_cons.1 h.asc).1
    rw [wt]
    rcases List.mem_cons.1 ha with rfl | hm
    · rw [if_pos rfl]
    · rw [if_neg (by have := ha2 a hm; omega)]
      exact ih ⟨fun c hc => h.bd c (List.mem_cons_of_mem _ hc), (List.pairwise_cons.1 h.asc).2⟩ hm
theorem wt_none {l : List S70} {p : Int} (h : ∀ a ∈ l, a.f0 ≠ p) : wt l p = 0 := by
  induction l with
  | nil => rfl
  | cons b l ih =>
    rw [wt, if_neg (h b List.mem_cons_self)]
    exact ih fun a ha => h a (List.mem_cons_of_mem _ ha)
theorem wt_cases {P : Int} {l : List S70} (h : ArcsOk P l) (p : Int) : (∃ a ∈ l, a.f0 = p ∧ wt l p = a.f1) ∨ wt l p = 0 := by
  by_cases hp : ∃ a ∈ l, a.f0 = p
  · obtain ⟨a, ha, rfl⟩ := hp; exact .inl ⟨a, ha, rfl, wt_mem h ha⟩
  · exact .inr (wt_none fun a ha he => hp ⟨a, ha, he⟩)
theorem wt_bd {P : Int} {l : List S70} (h : ArcsOk P l) (p : Int) : 0 ≤ wt l p ∧ wt l p ≤ 99 := by
  rcases wt_cases h p with ⟨a, ha, _, e⟩ | e
  · have := h.bd a ha; omega
  · omega
theorem rd_set {m : List Int} {i p : Int} (v : Int) (hi : 0 ≤ i) (hil : i < (m.length : Int)) (hp : 0 ≤ p) : rd (m.set i.toNat v) p = if p = i then v else rd m p := by
  obtain ⟨a, rfl⟩ := Int.eq_ofNat_of_zero_le hi
  obtain ⟨b, rfl⟩ := Int.eq_ofNat_of_zero_le hp
  simp only [rd, Int.toNat_natCast, List.getD_eq_getElem?_getD, List.getElem?_set]
  by_cases h : a = b
  · subst h; rw [if_pos rfl, if_pos (by omega), if_pos rfl]; rfl
  · rw [if_neg h, if_neg (by omega)]
theorem rd_chgSub {P : Int} : ∀ (l : List S70) (m : List Int), ArcsOk P l → P ≤ (m.length : Int) → (∀ a ∈ l, -1000000000000 ≤ rd m a.f0 ∧ rd m a.f0 ≤ 1000000000000) → ∀ p : Int, 0 ≤ p → rd (chgSub l m) p = rd m p - wt l p := by
  intro l
  induction l with
  | nil => intro m _ _ _ p _; simp [chgSub, wt]
  | cons a l ih =>
    intro m h hP hb p hp
    obtain ⟨b1, b2, b3, b4⟩ := h.bd a List.mem_cons_self
    have hx := hb a List.mem_cons_self
    have hasc := (List.pairwise_cons.1 h.asc)
    have hl : ArcsOk P l := ⟨fun c hc => h.bd c (List.mem_cons_of_mem _ hc), hasc.2⟩
    show rd (chgSub l (m.set a.f0.toNat (wrap64 (rd m a.f0 - a.f1)))) p = _
    rw [ih _ hl (by simpa using hP) (fun c hc => by
      have := hasc.1 c hc
      have h2 := hl.bd c hc
      rw [rd_set _ b1 (by omega) (by omega), if_neg (by omega)]
      exact hb c (List.mem_cons_of_mem _ hc)) p hp, rd_set _ b1 (by omega) hp, wt, w_id (by omega) (by omega)]
    by_cases he : p = a.f0
    · rw [if_pos he, if_pos he.symm, he, wt_none (fun c hc => by have := hasc.1 c hc; omega)]; omega
    · rw [if_neg he, if_neg (fun e => he e.symm)]
theorem rd_chgAdd {P : Int} : ∀ (l : List S70) (m : List Int), ArcsOk P l → P ≤ (m.length : Int) → (∀ a ∈ l, -1000000000000 ≤ rd m a.f0 ∧ rd m a.f0 ≤ 1000000000000) → ∀ p : Int, 0 ≤ p → rd (chgAdd l m) p = rd m p + wt l p := by
  intro l
  induction l with
  | nil => intro m _ _ _ p _; simp [chgAdd, wt]
  | cons a l ih =>
    intro m h hP hb p hp
    obtain ⟨b1, b2, b3, b4⟩ := h.bd a List.mem_cons_self
    have hx := hb a List.mem_cons_self
    have hasc := (List.pairwise_cons.1 h.asc)
    have hl : ArcsOk P l := ⟨fun c hc => h.bd c (List.mem_cons_of_mem _ hc), hasc.2⟩
    show rd (chgAdd l (m.set a.f0.toNat (wrap64 (rd m a.f0 + a.f1)))) p = _
    rw [ih _ hl (by simpa using hP) (fun c hc => by
      have := hasc.1 c hc
      have h2 := hl.bd c hc
      rw [rd_set _ b1 (by omega) (by omega), if_neg (by omega)]
      exact hb c (List.mem_cons_of_mem _ hc)) p hp, rd_set _ b1 (by omega) hp, wt, w_id (by omega) (by omega)]
    by_cases he : p = a.f0
    · rw [if_pos he, if_pos he.symm, he, wt_none (fun c hc => by have := hasc.1 c hc; omega)]; omega
    · rw [if_neg he, if_neg (fun e => he e.symm)]
/-- a valid marking -/
structure MOk (n : Nat) (m : List Int) : Prop where
  len : m.length = n
  bd : ∀ x ∈ m, 0 ≤ x ∧ x ≤ 1048576
theorem MOk.at_ {n : Nat} {m : List Int} (h : MOk n m) (p : Int) : 0 ≤ rd m p ∧ rd m p ≤ 1048576 := by
  rw [rd, List.getD_eq_getElem?_getD]
  cases hm : m[p.toNat]? with
  | none => simp
  | some x => exact h.bd x (List.mem_of_getElem? hm)
/-- what a place holds after a transition -/
def aft (t : S68) (m : List Int) (p : Int) : Int := rd m p - wt t.f1 p + wt t.f2 p
theorem rd_chg {ps : List S65} {ts : List S68} {t : S68} {m : List Int} (hn : NetOk ps ts) (ht : t ∈ ts) (hm : MOk ps.length m) (p : Int) (hp : 0 ≤ p) : rd (chgAdd t.f2 (chgSub t.f1 m)) p = aft t m p := by
  have hT := hn.tr t ht
  have h1 := fun p hp => rd_chgSub t.f1 m hT.pre (by have := hm.len; omega) (fun a _ => by have := hm.at_ a.f0; omega) p hp
  rw [rd_chgAdd t.f2 _ hT.post (by rw [chgSub_len]; have := hm.len; omega) (fun a ha => by
    have := hT.post.bd a ha
    rw [h1 a.f0 (by omega)]
    have := hm.at_ a.f0
    have := wt_bd hT.pre a.f0
    omega) p hp, h1 p hp, aft]
theorem aft_bd {ps : List S65} {ts : List S68} {t : S68} {m : List Int} (hn : NetOk ps ts) (ht : t ∈ ts) (hm : MOk ps.length m) (p : Int) : -99 ≤ aft t m p ∧ aft t m p ≤ 1048675 := by
  have := hm.at_ p
  have := wt_bd (hn.tr t ht).pre p
  have := wt_bd (hn.tr t ht).post p
  unfold aft; omega
theorem rfAfter_eq {ps : List S65} {ts : List S68} {t : S68} {m : List Int} (hn : NetOk ps ts) (ht : t ∈ ts) (hm : MOk ps.length m) (p : Int) : rfAfter t m p = aft t m p := by
  have := hm.at_ p
  have := wt_bd (hn.tr t ht).pre p
  have := wt_bd (hn.tr t ht).post p
  unfold rfAfter aft
  rw [w_id (x := rd m p - wt t.f1 p) (by omega) (by omega), w_id (by omega) (by omega)]
theorem chg_eq {ps : List S65} {ts : List S68} {t : S68} {m : List Int} (hn : NetOk ps ts) (ht : t ∈ ts) (hm : MOk ps.length m) : chgAdd t.f2 (chgSub t.f1 m) = (List.range ps.length).map fun p : Nat => aft t m (p : Int) := by
  apply List.ext_getElem
  · rw [chgAdd_len, chgSub_len, hm.len]; simp
  · intro i h1 h2
    have := rd_chg hn ht hm (i : Int) (by omega)
    rw [List.getElem_map, List.getElem_range, ← this, rd_nat, List.getD_eq_getElem?_getD, List.getElem?_eq_getElem h1]; rfl
theorem arcsIn_of {P : Int} {l : List S70} {n : Nat} (h : ArcsOk P l) (e : P = (n : Int)) : arcsIn l n := fun a ha => by have := h.bd a ha; omega
theorem readyOk_of {ps : List S65} {ts : List S68} {t : S68} {m : List Int} (hn : NetOk ps ts) (ht : t ∈ ts) (hm : MOk ps.length m) : readyOk ps t.f1 t.f2 t.f3 m := by
  have hT := hn.tr t ht
  have hl := hm.len
  have := hn.np
  exact ⟨arcsIn_of hT.pre (by omega), arcsIn_of hT.post (by omega), arcsIn_of hT.inh (by omega), by omega, by omega⟩
theorem ready_eq {ps : List S65} {ts : List S68} {t : S68} {m : List Int} (hn : NetOk ps ts) (ht : t ∈ ts) (hm : MOk ps.length m) : readyB ps t.f1 t.f2 t.f3 m = rfReady ps t m := by
  have hT := hn.tr t ht
  have hl := hm.len
  rw [Bool.eq_iff_iff]
  rw [readyB, rfReady, Bool.and_eq_true, Bool.and_eq_true, List.all_eq_true, List.all_eq_true, List.all_eq_true, List.all_eq_true]
  have hcap : ∀ p : Nat, p < ps.length → 0 ≤ (rd_T65 ps (p : Int)).f2 := fun p hp => ((hn.pl _ (rdP_mem hp)).cap).1
  have hbadE : ∀ p : Nat, rfBad ps t m p = false ↔ (¬ rd m p < wt t.f1 p) ∧ ¬ (0 < wt t.f3 p ∧ wt t.f3 p ≤ rd m p) ∧ ¬ (0 < (rd_T65 ps p).f2 ∧ (rd_T65 ps p).f2 < aft t m p) := fun p => by
    rw [rfBad, rfAfter_eq hn ht hm, Bool.or_eq_false_iff, Bool.or_eq_false_iff, Bool.and_eq_false_iff, Bool.and_eq_false_iff]
    simp only [decide_eq_false_iff_not]
    constructor
    · rintro ⟨⟨h1, h2⟩, h3⟩; exact ⟨h1, by omega, by omega⟩
    · rintro ⟨h1, h2, h3⟩; exact ⟨⟨h1, by omega⟩, by omega⟩
  constructor
  · rintro ⟨⟨h1, h2⟩, h3⟩ p hp
    have hp' : p < ps.length := List.mem_range.1 hp
    have k := (hbadE p).2 ⟨?_, ?_, ?_⟩
    · rw [k]; rfl
    · rcases wt_cases hT.pre (p : Int) with ⟨a, ha, e1, e2⟩ | e
      · have := h1 a ha
        simp only [rdyPre, Bool.not_eq_true', decide_eq_false_iff_not] at this
        rw [e1] at this; rw [e2]; exact this
      · have := hm.at_ (p : Int); omega
    · rcases wt_cases hT.inh (p : Int) with ⟨a, ha, e1, e2⟩ | e
      · have := h2 a ha
        simp only [rdyInh, Bool.not_eq_true', decide_eq_false_iff_not] at this
        rw [e1] at this; rw [e2]; omega
      · omega
    · have := h3 p (List.mem_range.2 (by omega))
      rw [capOk, rd_chg hn ht hm _ (by omega), Bool.not_eq_true', Bool.and_eq_false_iff] at this
      simp only [decide_eq_false_iff_not] at this
      omega
  · intro h
    have h' : ∀ p : Nat, p < ps.length → (¬ rd m p < wt t.f1 p) ∧ ¬ (0 < wt t.f3 p ∧ wt t.f3 p ≤ rd m p) ∧ ¬ (0 < (rd_T65 ps p).f2 ∧ (rd_T65 ps p).f2 < aft t m p) := fun p hp => (hbadE p).1 (by
      have := h p (List.mem_range.2 hp)
      simpa using this)
    refine ⟨⟨fun a ha => ?_, fun a ha => ?_⟩, fun i hi => ?_⟩
    · have hb := hT.pre.bd a ha
      obtain ⟨q, hq⟩ := Int.eq_ofNat_of_zero_le hb.1
      have := (h' q (by omega)).1
      rw [← hq, wt_mem hT.pre ha] at this
      simp only [rdyPre, Bool.not_eq_true', decide_eq_false_iff_not]; exact this
    · have hb := hT.inh.bd a ha
      obtain ⟨q, hq⟩ := Int.eq_ofNat_of_zero_le hb.1
      have := (h' q (by omega)).2.1
      rw [← hq, wt_mem hT.inh ha] at this
      simp only [rdyInh, Bool.not_eq_true', decide_eq_false_iff_not]; omega
    · have hi' : i < m.length := List.mem_range.1 hi
      have := (h' i (by omega)).2.2
      have h2 := hcap i (by omega)
      rw [capOk, rd_chg hn ht hm _ (by omega), Bool.not_eq_true', Bool.and_eq_false_iff]
      simp only [decide_eq_false_iff_not]
      omega

end Go.Proofs.Yteaimaafahpamaa.Hy
