import Derived.Test.YtfeabjiccnnpcaaRows
import Derived.Test.YtfeabjiccnnpcaaBa
import Derived.ProofKit
import Derived.OpenShut
import Derived.ShutString
import Derived.ChangeOld
import Derived.Below
import Derived.Deep.Slices
import Derived.ChangeArms
set_option linter.unusedVariables false
namespace Go.Proofs.Ytfeabjiccnnpcaa.Ro
open Go.RowKit Go.ChangeShapes Go.WideShapes Go.Proofs.YtfeabjiccnnpcaaW.PrintWords

section
variable {H : Type} {enc : TypeId × Value → H} {P : Program} {w : World} {base : Nat} {spare : Nat → Bool} {held : Bool}

theorem choose_list {α : Type} (n : Nat) (p : Nat → α → Prop) (h : ∀ i, i < n → ∃ v, p i v) : ∃ xs : List α, xs.length = n ∧ ∀ i v, xs[i]? = some v → p i v := by
  induction n with
  | zero => exact ⟨[], rfl, by simp⟩
  | succ n ih =>
    obtain ⟨xs, hl, hx⟩ := ih (fun i hi => h i (by omega))
    obtain ⟨v, hv⟩ := h n (by omega)
    refine ⟨xs ++ [v], by simp [hl], fun i u hu => ?_⟩
    rcases Nat.lt_or_ge i xs.length with h' | h'
    · rw [List.getElem?_append_left h'] at hu
      exact hx i u hu
    · rw [List.getElem?_append_right h'] at hu
      obtain ⟨h1, h2⟩ := List.getElem?_eq_some_iff.1 hu
      simp at h1
      obtain rfl : i = n := by omega
      simp at h2
      exact h2 ▸ hv

/-- what a slice that came in reads as -/
theorem C_of_trod {α : Type} (d : Kd α) (Q : α → Prop) {t e : TypeId} {fuel : Nat} {cs : List Value} {x : DataW H × List MemPlace} (ht : P.underlying t = some (.slice e)) (hce : P.cellsOf e = d.sz)
    (hK : ∀ n cs' y, DataW.trod enc P w base spare held n e cs' = some y → ∃ p, d.K w p cs' ∧ Q p) (h : DataW.trod enc P w base spare held fuel t cs = some x) :
    ∃ A c xs, cs = [.slice A xs.length c] ∧ xs.length ≤ c ∧ c ≤ maxLen ∧ d.C w A xs.length xs ∧ ∀ z ∈ xs, Q z := by
  rcases Go.Deep.open_slice ht h with ⟨rfl, _⟩ | ⟨a, len, cap, m, n, D, Pl, rfl, hb, hl, hm, hmm, rfl, hx⟩
  · exact ⟨none, 0, [], rfl, Nat.le_refl _, Nat.zero_le _, ⟨rfl, Nat.zero_le _, fun h => absurd h (Nat.lt_irrefl 0)⟩, by simp⟩
  · have hlm : len ≤ m := by rw [hmm]; split <;> omega
    obtain ⟨xs, hxl, hxs⟩ := choose_list len (fun i p => ∃ cs', w.cells? base (a.add (i * P.cellsOf e)) (P.cellsOf e) = some cs' ∧ d.K w p cs' ∧ Q p) (fun i hi => by
      obtain ⟨cs', h1, h2⟩ := hx i (by omega)
      obtain ⟨p, hp⟩ := hK _ _ _ h2
      exact ⟨p, cs', h1, hp⟩)
    refine ⟨some a, cap, xs, by rw [hxl], by omega, hm, ⟨rfl, by unfold maxLen at hm; omega, fun h0 => ⟨a, rfl, fun j p hj => ?_⟩⟩, fun z hz => ?_⟩
    · obtain ⟨cs', h1, h2, _⟩ := hxs j p hj
      obtain ⟨_, h4, h5⟩ := World.cells?_some h1
      refine ⟨cs', by rw [h4, hce], h2, fun i u hu => ?_⟩
      have hi : i < cs'.length := (List.getElem?_eq_some_iff.1 hu).1
      have := h5 i (by omega)
      rw [hu, hce] at this
      rw [← this]
      congr 1
      rw [Addr.add_add]
    · obtain ⟨i, hi⟩ := List.getElem?_of_mem hz
      exact (hxs i z hi).choose_spec.2.2

theorem K_string {t : TypeId} (ht : P.underlying t = some .string) (n : Nat) (cs : List Value) (y : DataW H × List MemPlace) (h : DataW.trod enc P w base spare held n t cs = some y) : ∃ p, Kd.string.K w p cs ∧ p.size ≤ maxLen := by
  obtain ⟨s, rfl, _, hs⟩ := DataW.trod_string ht h
  exact ⟨s, rfl, hs⟩
theorem K_int {k : IntKind} {t : TypeId} (ht : P.underlying t = some (.int k)) (n : Nat) (cs : List Value) (y : DataW H × List MemPlace) (h : DataW.trod enc P w base spare held n t cs = some y) : ∃ p, (Kd.int k).K w p cs ∧ (Lit.int k p).wf = true := by
  obtain ⟨s, rfl, _, hs⟩ := DataW.trod_int ht h
  exact ⟨s, rfl, hs⟩
theorem K_slice {α : Type} (d : Kd α) (Q : α → Prop) {t e : TypeId} (ht : P.underlying t = some (.slice e)) (hce : P.cellsOf e = d.sz)
    (hK : ∀ n cs' y, DataW.trod enc P w base spare held n e cs' = some y → ∃ p, d.K w p cs' ∧ Q p) (n : Nat) (cs : List Value) (y : DataW H × List MemPlace) (h : DataW.trod enc P w base spare held n t cs = some y) :
    ∃ p, (Kd.slice e d).K w p cs ∧ ∀ z ∈ p, Q z := by
  obtain ⟨A, c, xs, rfl, hl, _, hC, hQ⟩ := C_of_trod d Q ht hce hK h
  exact ⟨xs, ⟨A, c, rfl, hl, hC⟩, hQ⟩
end
end Go.Proofs.Ytfeabjiccnnpcaa.Ro
