import Derived.Test.YtfeabjiccnnpcaaSe
set_option linter.unusedVariables false
set_option linter.unusedSimpArgs false
namespace Go.Proofs.Ytfeabjiccnnpcaa.Ca
open Go.RowKit Go.Proofs.YtfeabjiccnnpcaaW.PrintWords Go.Proofs.YtfeabjiccnnpcaaW.PrintLast Go.Proofs.Ytfeabjiccnnpcaa.Ba

def okAt (k q : Nat) (r : Rule) : Bool :=
  isCp r.next && isCp r.shared && !(k == 0 && (r.next == 0 || r.shared == 0)) && !(k == 2 && r.next != 0) && !(decide (2 ≤ k) && q == 0 && (r.next != 0 || r.back))
theorem okTab_iff (t : List Rule) : okTab t = true ↔ t.length = 4 ∧ ∀ q : Nat, q < 4 → badRule (rl t q) = false := by
  constructor
  · intro h
    simp only [okTab, Bool.and_eq_true, beq_iff_eq, Bool.not_eq_true', List.any_eq_false] at h
    refine ⟨h.1, fun q hq => ?_⟩
    have := h.2 (t[q]'(by omega)) (List.getElem_mem _)
    have e : rl t (q : Int) = t[q]'(by omega) := by simp [rl, h.1, hq]
    rw [e]; simpa using this
  · rintro ⟨h4, h⟩
    simp only [okTab, Bool.and_eq_true, beq_iff_eq, Bool.not_eq_true', List.any_eq_false]
    refine ⟨h4, fun r hr => ?_⟩
    obtain ⟨q, hq, rfl⟩ := List.getElem_of_mem hr
    have := h q (by omega)
    have e : rl t (q : Int) = t[q] := by simp [rl, hq]
    rw [e] at this; simp [this]
theorem validP_iff (p : Proto) : validP p = true ↔ ∀ k, k < 5 → (p.tab k).length = 4 ∧ ∀ q : Nat, q < 4 → okAt k q (rl (p.tab k) q) = true := by
  have ht : tabsTo p 5 = true ↔ ∀ k, k < 5 → okTab (p.tab k) = true := by
    simp only [tabsTo, Bool.and_eq_true]
    constructor
    · rintro ⟨⟨⟨⟨⟨_, h0⟩, h1⟩, h2⟩, h3⟩, h4⟩ k hk
      match k, hk with
      | 0, _ => exact h0
      | 1, _ => exact h1
      | 2, _ => exact h2
      | 3, _ => exact h3
      | 4, _ => exact h4
    · intro h
      exact ⟨⟨⟨⟨⟨trivial, h 0 (by omega)⟩, h 1 (by omega)⟩, h 2 (by omega)⟩, h 3 (by omega)⟩, h 4 (by omega)⟩
  have hh : heldTo p 4 = true ↔ ∀ q, q < 4 → okHeld p q = true := by
    simp only [heldTo, Bool.and_eq_true]
    constructor
    · rintro ⟨⟨⟨⟨_, h0⟩, h1⟩, h2⟩, h3⟩ k hk
      match k, hk with
      | 0, _ => exact h0
      | 1, _ => exact h1
      | 2, _ => exact h2
      | 3, _ => exact h3
    · intro h
      exact ⟨⟨⟨⟨trivial, h 0 (by omega)⟩, h 1 (by omega)⟩, h 2 (by omega)⟩, h 3 (by omega)⟩
  have e : validP p = true ↔ tabsTo p 5 = true ∧ keeps0 (p.tab 3) = true ∧ keeps0 (p.tab 4) = true ∧ keeps0 (p.tab 2) = true ∧ heldTo p 4 = true := by
    simp only [validP, Bool.and_eq_true, Proto.tab]
  rw [e, ht, hh]
  constructor
  · rintro ⟨h, k3, k4, k2, hq⟩ k hk
    obtain ⟨h4, hb⟩ := (okTab_iff _).1 (h k hk)
    refine ⟨h4, fun q hq4 => ?_⟩
    have hb := hb q hq4
    have hq := hq q hq4
    simp only [badRule, Bool.or_eq_false_iff, Bool.not_eq_false'] at hb
    simp only [okHeld, Bool.and_eq_true, bne_iff_ne, beq_iff_eq] at hq
    simp only [keeps0, Bool.and_eq_true, beq_iff_eq, Bool.not_eq_true'] at k2 k3 k4
    have hz : ∀ t : List Rule, q = 0 → rl t (q : Int) = rl t 0 := fun t h => by rw [h]; rfl
    match k, hk with
    | 0, _ => simp [okAt, hb.1, hb.2, Proto.tab, hq.1.1, hq.1.2] at *; omega
    | 1, _ => simp [okAt, hb.1, hb.2]
    | 2, _ =>
      simp only [okAt, hb.1, hb.2]
      by_cases h0 : q = 0
      · rw [hz _ h0, k2.1, k2.2]; simp
      · simp [h0]; simpa [Proto.tab] using hq.2
    | 3, _ =>
      simp only [okAt, hb.1, hb.2]
      by_cases h0 : q = 0
      · rw [hz _ h0, k3.1, k3.2]; simp
      · simp [h0]
    | 4, _ =>
      simp only [okAt, hb.1, hb.2]
      by_cases h0 : q = 0
      · rw [hz _ h0, k4.1, k4.2]; simp
      · simp [h0]
  · intro h
    have hk : ∀ k, 2 ≤ k → k < 5 → keeps0 (p.tab k) = true := by
      intro k hk2 hk
      have := (h k hk).2 0 (by omega)
      simp only [okAt, Bool.and_eq_true, Bool.not_eq_true', Bool.and_eq_false_iff, decide_eq_false_iff_not, Bool.or_eq_false_iff, bne_eq_false_iff_eq] at this
      have h2 := this.2
      simp only [keeps0, Bool.and_eq_true, beq_iff_eq, Bool.not_eq_true']
      rcases h2 with (h2 | h2) | h2
      · omega
      · simp at h2
      · exact ⟨by simpa using h2.1, by simpa using h2.2⟩
    refine ⟨fun k hk => (okTab_iff _).2 ⟨(h k hk).1, fun q hq => ?_⟩, hk 3 (by omega) (by omega), hk 4 (by omega) (by omega), hk 2 (by omega) (by omega), fun q hq => ?_⟩
    · have := (h k hk).2 q hq
      simp only [okAt, Bool.and_eq_true] at this
      simp [badRule, this.1.1.1.1, this.1.1.1.2]
    · have h0 := (h 0 (by omega)).2 q hq
      have h2 := (h 2 (by omega)).2 q hq
      simp [okAt, Proto.tab] at h0 h2
      simp [okHeld]
      exact ⟨⟨h0.2.1, h0.2.2⟩, h2.1.2⟩
end Go.Proofs.Ytfeabjiccnnpcaa.Ca
