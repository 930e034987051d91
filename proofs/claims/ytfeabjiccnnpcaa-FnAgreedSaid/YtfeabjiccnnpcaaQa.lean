import Derived.Test.YtfeabjiccnnpcaaYa
set_option linter.unusedVariables false
set_option linter.unusedSimpArgs false
/- the run and the search, plain -/
namespace Go.Proofs.Ytfeabjiccnnpcaa.Ca
open Go.Proofs.Ytfeabjiccnnpcaa.Bfs

theorem runS_hit (p : Proto) : ∀ (ops : List Op) (x : Sys) (k : Int), 0 ≤ k → (runS p x k ops).2 = -1 ∨ ∃ l o r s, ops = l ++ o :: r ∧ goes (stp p) x l = some s ∧ (stp p s o).2 = true ∧ (runS p x k ops).2 = k + l.length
  | [], x, k, _ => .inl rfl
  | q :: r, x, k, hk => by
    rw [runS]
    split
    · rename_i h
      exact .inr ⟨[], q, r, x, rfl, rfl, h, by simp⟩
    · rename_i h
      rcases runS_hit p r (stepS p x q).1 (k + 1) (by omega) with h1 | ⟨l, o, r', s, rfl, h1, h2, h3⟩
      · exact .inl h1
      · refine .inr ⟨q :: l, o, r', s, rfl, ?_, h2, ?_⟩
        · rw [goes, if_neg (by exact h)]; exact h1
        · rw [h3]; simp; omega
theorem runS_go (p : Proto) (o : Op) : ∀ (l : List Op) (x s : Sys) (k : Int), goes (stp p) x l = some s → (stp p s o).2 = true → (runS p x k (l ++ [o])).2 = k + l.length
  | [], x, s, k, hg, hf => by
    simp only [goes] at hg
    injection hg with hg
    subst hg
    rw [List.nil_append, runS, if_pos (by exact hf)]
    simp
  | q :: l, x, s, k, hg, hf => by
    rw [goes] at hg
    split at hg
    · cases hg
    · rename_i h
      rw [List.cons_append, runS, if_neg (by exact h), (runS_go p o l (stepS p x q).1 s (k + 1) hg hf)]
      simp; omega
theorem okOps_opsN {ops : List Op} {n : Nat} (h : okOps ops n = true) : ∀ o ∈ ops, o ∈ opsN n := fun o ho => by
  obtain ⟨k, hk, rfl⟩ := List.getElem_of_mem ho
  have := okOps_at h k hk
  exact opsN_mem.2 ⟨⟨this.1, this.2.1⟩, this.2.2.1, this.2.2.2.1⟩
theorem opsN_okOps {ops : List Op} {n : Nat} (h : ∀ o ∈ ops, o ∈ opsN n) (hl : ops.length ≤ 40) : okOps ops n = true := by
  simp only [okOps, Bool.and_eq_true, decide_eq_true_eq, Bool.not_eq_true', List.any_eq_false]
  refine ⟨hl, fun o ho => ?_⟩
  have := opsN_mem.1 (h o ho)
  simp [okOp, inR]
  omega
theorem runS_rng (p : Proto) (x : Sys) (ops : List Op) : (runS p x 0 ops).2 = -1 ∨ (0 ≤ (runS p x 0 ops).2 ∧ (runS p x 0 ops).2 < ops.length) := by
  rcases runS_hit p ops x 0 (Int.le_refl _) with h | ⟨l, o, r, s, he, _, _, h⟩
  · exact .inl h
  · refine .inr ⟨by omega, ?_⟩
    have : ops.length = l.length + (r.length + 1) := by rw [he]; simp
    omega
/-- the search finds none: no run goes wrong -/
theorem short_none {p : Proto} {n i : Nat} (hend : (bfsS p n i).1.length ≤ i) (hF : (bfsS p n i).2 = none) {ops : List Op} (ho : ∀ o ∈ ops, o ∈ opsN n) : (runS p (first n) 0 ops).2 = -1 := by
  rcases runS_hit p ops (first n) 0 (Int.le_refl _) with h | ⟨l, o, r, s, he, hg, hf, h⟩
  · exact h
  · obtain ⟨f, h1, _⟩ := shortest (step := stp p) (ops := opsN n) (s0 := first n) (i := i) hend (l := l) (s := s) (o := o) (fun x hx => ho x (by rw [he]; simp [hx])) hg (ho o (by rw [he]; simp)) hf
    rw [bfsS] at hF
    rw [hF] at h1
    cases h1
/-- .. it finds one: it is no longer than any other -/
theorem short_some {p : Proto} {n i : Nat} {f : List Op} (hend : (bfsS p n i).1.length ≤ i) (hF : (bfsS p n i).2 = some f) {ops : List Op} (ho : ∀ o ∈ ops, o ∈ opsN n) : (runS p (first n) 0 ops).2 = -1 ∨ (f.length : Int) - 1 ≤ (runS p (first n) 0 ops).2 := by
  rcases runS_hit p ops (first n) 0 (Int.le_refl _) with h | ⟨l, o, r, s, he, hg, hf, h⟩
  · exact .inl h
  · obtain ⟨f', h1, h2⟩ := shortest (step := stp p) (ops := opsN n) (s0 := first n) (i := i) hend (l := l) (s := s) (o := o) (fun x hx => ho x (by rw [he]; simp [hx])) hg (ho o (by rw [he]; simp)) hf
    rw [bfsS] at hF
    rw [hF] at h1
    injection h1 with h1
    subst h1
    refine .inr ?_
    omega
theorem short_runs {p : Proto} {n i : Nat} {f : List Op} (hF : (bfsS p n i).2 = some f) : (∀ o ∈ f, o ∈ opsN n) ∧ f ≠ [] ∧ (runS p (first n) 0 f).2 = (f.length : Int) - 1 := by
  obtain ⟨l, o, s, rfl, ho, hl, hg, hf⟩ := found (step := stp p) (ops := opsN n) (s0 := first n) (i := i) hF
  refine ⟨?_, by simp, ?_⟩
  · intro q hq
    rcases List.mem_append.1 hq with h | h
    · exact hl q h
    · simp at h; subst h; exact ho
  · rw [runS_go p o l _ s 0 hg hf]
    simp
end Go.Proofs.Ytfeabjiccnnpcaa.Ca
