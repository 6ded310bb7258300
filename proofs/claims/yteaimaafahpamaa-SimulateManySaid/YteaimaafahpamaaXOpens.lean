/- By hand (opens, net_opens, sim_opens): a part of this seat's proofs. -/
import Derived.ChangeSlices
import Derived.Deep.Slices
import Derived.ChangeMaps5
import Derived.ChangeArms
import Derived.Shelf.Abstract
import Derived.WalkKit
import Derived.Deep.Strs
import Derived.Lib.SmallJoins
import Derived.Test.YteaimaafahpamaaProg
import Derived.Test.YteaimaafahpamaaH0
import Derived.Test.YteaimaafahpamaaM0
namespace Go.Proofs.Yteaimaafahpamaa.Hy
open Go.RowKit Go.Shelf Go.Proofs.YteaimaafahpamaaW.PrintWords Go.Proofs.YteaimaafahpamaaW.PrintLast Go.Proofs.YteaimaafahpamaaW.PrintMore
set_option linter.unusedVariables false
set_option linter.unusedSimpArgs false
attribute [local go_sem] Oper.semAt_some
/-! ### a reading, as a value of a kind -/
section
open Go.ChangeShapes Go.WideShapes Go.Deep
/-- what reads as type t is of kind d, and good -/
def Opens {α : Type} (P : Program) (d : Kd α) (t : TypeId) (good : α → Prop) : Prop :=
  ∀ (H : Type) (enc : TypeId × Value → H) (w : World) (base : Nat) (spare : Nat → Bool) (held : Bool) (fuel : Nat) (cs : List Value) (x : DataW H × List MemPlace), DataW.trod enc P w base spare held fuel t cs = some x → ∃ a, d.K w a cs ∧ good a
variable {P : Program}
theorem opens_int {t : TypeId} {k : IntKind} (ht : P.underlying t = some (.int k)) : Opens P (Kd.int k) t (fun n => (Lit.int k n).wf = true) := by
  intro H enc w base spare held fuel cs x h
  obtain ⟨n, rfl, _, hw⟩ := DataW.trod_int ht h
  exact ⟨n, rfl, hw⟩
theorem opens_bool {t : TypeId} (ht : P.underlying t = some .bool) : Opens P Kd.bool t (fun _ => True) := by
  intro H enc w base spare held fuel cs x h
  obtain ⟨n, rfl, _⟩ := DataW.trod_bool ht h
  exact ⟨n, rfl, trivial⟩
theorem opens_string {t : TypeId} (ht : P.underlying t = some .string) : Opens P Kd.string t (fun s => s.size ≤ maxLen) := by
  intro H enc w base spare held fuel cs x h
  obtain ⟨n, rfl, _, hs⟩ := DataW.trod_string ht h
  exact ⟨n, rfl, hs⟩
theorem list_of {α : Type} {p : Nat → α → Prop} : ∀ {n : Nat}, (∀ i, i < n → ∃ x, p i x) → ∃ xs : List α, xs.length = n ∧ ∀ i x, xs[i]? = some x → p i x
  | 0, _ => ⟨[], rfl, fun i x h => by simp at h⟩
  | n + 1, h => by
    obtain ⟨xs, h1, h2⟩ := list_of (fun i hi => h i (by omega) : ∀ i, i < n → ∃ x, p i x)
    obtain ⟨y, hy⟩ := h n (by omega)
    refine ⟨xs ++ [y], by simp [h1], fun i x hx => ?_⟩
    rcases Nat.lt_or_ge i n with hi | hi
    · rw [List.getElem?_append_left (by omega)] at hx; exact h2 i x hx
    · rw [List.getElem?_append_right (by omega)] at hx
      have hi2 : i - xs.length < 1 := by
        have := (List.getElem?_eq_some_iff.1 hx).1; simpa using this
      have : i = n := by omega
      subst this
      rw [h1, Nat.sub_self] at hx
      have : y = x := by simpa using hx
      exact this ▸ hy
theorem opens_slice {α : Type} {d : Kd α} {t e q : TypeId} {good : α → Prop} (ht : P.underlying t = some (.slice e)) (hc : P.cellsOf e = d.sz) (h : Opens P d e good) : Opens P (Kd.slice q d) t (fun xs => xs.length ≤ maxLen ∧ ∀ x ∈ xs, good x) := by
  intro H enc w base spare held fuel cs x htr
  rcases open_slice ht htr with ⟨rfl, _⟩ | ⟨a, len, cap, m, n, D, Pl, rfl, hb, hl, hm, hmm, _, hx⟩
  · exact ⟨[], ⟨none, 0, rfl, Nat.le_refl _, Kd.C_nil _ _⟩, Nat.zero_le _, fun x hx => by simp at hx⟩
  · have hlm : len ≤ m := by rw [hmm]; split <;> omega
    obtain ⟨xs, h1, h2⟩ := list_of (p := fun i z => ∃ cs', w.cells? base (a.add (i * P.cellsOf e)) (P.cellsOf e) = some cs' ∧ d.K w z cs' ∧ good z) (fun i hi => by
      obtain ⟨cs', h3, h4⟩ := hx i (Nat.lt_of_lt_of_le hi hlm)
      obtain ⟨z, h5, h6⟩ := h H enc w base spare held n cs' _ h4
      exact ⟨z, cs', h3, h5, h6⟩ : ∀ i, i < len → _)
    have hml : len ≤ maxLen := by omega
    refine ⟨xs, ⟨some a, cap, by rw [h1], by omega, rfl, by rw [h1]; simp only [maxLen] at hml; omega, fun _ => ⟨a, rfl, fun j p hj => ?_⟩⟩, by omega, fun x hx => ?_⟩
    · obtain ⟨cs', h3, h4, _⟩ := h2 j p hj
      obtain ⟨_, h5, h6⟩ := World.cells?_some h3
      refine ⟨cs', d.K_len h4, h4, fun i u hu => ?_⟩
      have hi : i < P.cellsOf e := by rw [← h5]; exact (List.getElem?_eq_some_iff.1 hu).1
      have := h6 i hi
      rw [Deep.add_add, hu, hc] at this
      exact this
    · obtain ⟨i, hi⟩ := List.getElem?_of_mem hx
      obtain ⟨_, _, _, h5⟩ := h2 i x hi
      exact h5
/-- a row of a kind, as an argument -/
theorem opens_row {α : Type} {d : Kd α} {t q : TypeId} {good : List α → Prop} (h : Opens P (Kd.slice q d) t good) {H : Type} {enc : TypeId × Value → H} {w : World} {base : Nat} {spare : Nat → Bool} {held : Bool} {fuel : Nat} {v : Value} {x : DataW H × List MemPlace} (htr : DataW.trod enc P w base spare held fuel t [v] = some x) :
    ∃ A c xs, v = .slice A (List.length xs) c ∧ xs.length ≤ c ∧ d.C w A xs.length xs ∧ good xs := by
  obtain ⟨xs, ⟨A, c, hv, hl, hC⟩, hg⟩ := h H enc w base spare held fuel [v] x htr
  injection hv with hv
  exact ⟨A, c, xs, hv, hl, hC, hg⟩
end

/-! ### the readings of a net's parts -/
section
open Go.ChangeShapes Go.WideShapes Go.Deep
set_option maxRecDepth 100000 in
theorem ok_int : Opens Try.prog (Kd.int .i64) 3 (fun n => (Lit.int .i64 n).wf = true) := opens_int Try.underlying3
set_option maxRecDepth 100000 in
theorem ok_str : Opens Try.prog Kd.string 9 (fun s => s.size ≤ maxLen) := opens_string Try.underlying9
set_option maxRecDepth 100000 in
theorem ok_ints : Opens Try.prog (Kd.slice 3 (Kd.int .i64)) 26 (fun xs => xs.length ≤ maxLen ∧ ∀ x ∈ xs, (Lit.int .i64 x).wf = true) := opens_slice Try.underlying26 (by kernel_rfl) ok_int
theorem part_of {H : Type} {enc : TypeId × Value → H} {P : Program} {w : World} {base : Nat} {spare : Nat → Bool} {held : Bool} {n : Nat} {t i : Nat} {cs c : List Value} {xs : List (DataW H × List MemPlace)} (h : DataW.trod enc P w base spare held n t cs = xs[i]?) (hi : i < xs.length) (e : cs = c) : ∃ y, DataW.trod enc P w base spare held n t c = some y := by
  rw [List.getElem?_eq_getElem hi, e] at h
  exact ⟨_, h⟩
set_option maxRecDepth 100000 in
theorem ok_arc : Opens Try.prog k70 70 (fun _ => True) := by
  intro H enc w base spare held fuel cs x h
  obtain ⟨xs, n, _, _, hl, hlen, hf⟩ := DataW.trod_struct Try.underlying70 h
  have hl' : cs.length = 2 := hl.trans (by kernel_rfl)
  have c3 : Try.prog.cellsOf 3 = 1 := by kernel_rfl
  match cs, hl' with
  | [c0, c1], _ =>
    obtain ⟨y0, h0⟩ := part_of (c := [c0]) (hf 0 _ rfl) (by rw [hlen]; decide) (by simp [c3])
    obtain ⟨y1, h1⟩ := part_of (c := [c1]) (hf 1 _ rfl) (by rw [hlen]; decide) (by simp [c3])
    obtain ⟨a0, k0, _⟩ := ok_int H enc w base spare held n _ _ h0
    obtain ⟨a1, k1, _⟩ := ok_int H enc w base spare held n _ _ h1
    exact ⟨⟨a0, a1⟩, ⟨[c0], [c1], rfl, k0, k1⟩, trivial⟩
set_option maxRecDepth 100000 in
theorem ok_arcs : Opens Try.prog (Kd.slice 70 k70) 66 (fun xs => xs.length ≤ maxLen ∧ ∀ x ∈ xs, True) := opens_slice Try.underlying66 (by kernel_rfl) ok_arc
set_option maxRecDepth 100000 in
theorem ok_place : Opens Try.prog k65 65 (fun _ => True) := by
  intro H enc w base spare held fuel cs x h
  obtain ⟨xs, n, _, _, hl, hlen, hf⟩ := DataW.trod_struct Try.underlying65 h
  have hl' : cs.length = 3 := hl.trans (by kernel_rfl)
  have c3 : Try.prog.cellsOf 3 = 1 := by kernel_rfl
  have c9 : Try.prog.cellsOf 9 = 1 := by kernel_rfl
  match cs, hl' with
  | [c0, c1, c2], _ =>
    obtain ⟨y0, h0⟩ := part_of (c := [c0]) (hf 0 _ rfl) (by rw [hlen]; decide) (by simp [c9])
    obtain ⟨y1, h1⟩ := part_of (c := [c1]) (hf 1 _ rfl) (by rw [hlen]; decide) (by simp [c3])
    obtain ⟨y2, h2⟩ := part_of (c := [c2]) (hf 2 _ rfl) (by rw [hlen]; decide) (by simp [c3])
    obtain ⟨a0, k0, _⟩ := ok_str H enc w base spare held n _ _ h0
    obtain ⟨a1, k1, _⟩ := ok_int H enc w base spare held n _ _ h1
    obtain ⟨a2, k2, _⟩ := ok_int H enc w base spare held n _ _ h2
    exact ⟨⟨a0, a1, a2⟩, ⟨[c0], [c1, c2], rfl, k0, ⟨[c1], [c2], rfl, k1, k2⟩⟩, trivial⟩
set_option maxRecDepth 100000 in
theorem ok_trans : Opens Try.prog k68 68 (fun _ => True) := by
  intro H enc w base spare held fuel cs x h
  obtain ⟨xs, n, _, _, hl, hlen, hf⟩ := DataW.trod_struct Try.underlying68 h
  have hl' : cs.length = 5 := hl.trans (by kernel_rfl)
  have c3 : Try.prog.cellsOf 3 = 1 := by kernel_rfl
  have c9 : Try.prog.cellsOf 9 = 1 := by kernel_rfl
  have c5 : Try.prog.cellsOf 66 = 1 := by kernel_rfl
  match cs, hl' with
  | [c0, c1, c2, c3', c4], _ =>
    obtain ⟨y0, h0⟩ := part_of (c := [c0]) (hf 0 _ rfl) (by rw [hlen]; decide) (by simp [c9])
    obtain ⟨y1, h1⟩ := part_of (c := [c1]) (hf 1 _ rfl) (by rw [hlen]; decide) (by simp [c5])
    obtain ⟨y2, h2⟩ := part_of (c := [c2]) (hf 2 _ rfl) (by rw [hlen]; decide) (by simp [c5])
    obtain ⟨y3, h3⟩ := part_of (c := [c3']) (hf 3 _ rfl) (by rw [hlen]; decide) (by simp [c5])
    obtain ⟨y4, h4⟩ := part_of (c := [c4]) (hf 4 _ rfl) (by rw [hlen]; decide) (by simp [c3])
    obtain ⟨a0, k0, _⟩ := ok_str H enc w base spare held n _ _ h0
    obtain ⟨a1, k1, _⟩ := ok_arcs H enc w base spare held n _ _ h1
    obtain ⟨a2, k2, _⟩ := ok_arcs H enc w base spare held n _ _ h2
    obtain ⟨a3, k3, _⟩ := ok_arcs H enc w base spare held n _ _ h3
    obtain ⟨a4, k4, _⟩ := ok_int H enc w base spare held n _ _ h4
    exact ⟨⟨a0, a1, a2, a3, a4⟩, ⟨[c0], [c1, c2, c3', c4], rfl, k0, ⟨[c1], [c2, c3', c4], rfl, k1, ⟨[c2], [c3', c4], rfl, k2, ⟨[c3'], [c4], rfl, k3, k4⟩⟩⟩⟩, trivial⟩
set_option maxRecDepth 100000 in
theorem ok_places : Opens Try.prog (Kd.slice 65 k65) 22 (fun xs => xs.length ≤ maxLen ∧ ∀ x ∈ xs, True) := opens_slice Try.underlying22 (by kernel_rfl) ok_place
set_option maxRecDepth 100000 in
theorem ok_transs : Opens Try.prog (Kd.slice 68 k68) 23 (fun xs => xs.length ≤ maxLen ∧ ∀ x ∈ xs, True) := opens_slice Try.underlying23 (by kernel_rfl) ok_trans
end

theorem ok_u64 : Opens Try.prog (Kd.int .u64) 27 (fun n => (Lit.int .u64 n).wf = true) := opens_int Try.underlying27

end Go.Proofs.Yteaimaafahpamaa.Hy
