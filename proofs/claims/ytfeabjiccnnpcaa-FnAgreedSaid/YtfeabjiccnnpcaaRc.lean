import Derived.Test.YtfeabjiccnnpcaaQa
import Derived.Test.YtfeabjiccnnpcaaRb
set_option linter.unusedVariables false
set_option linter.unusedSimpArgs false
/- the two protocols with up to three caches: the states that are reached, closed under the ops -/
namespace Go.Proofs.Ytfeabjiccnnpcaa.Ca
open Go.Proofs.Ytfeabjiccnnpcaa.Bfs
def closedB (p : Proto) (n : Nat) (L : List Sys) : Bool := L.contains (first n) && (L.all aloneB && L.all fun x => (opsN n).all fun o => !(stp p x o).2 && L.contains (stp p x o).1)
def reachL (p : Proto) (n : Nat) : List Sys := (bfsS p n 20).1.map Prod.fst
def Sound (p : Proto) (n : Nat) : Prop := ∀ i, (bfsS p n i).1.length ≤ i → (bfsS p n i).2 = none ∧ (((bfsS p n i).1.map Prod.fst).any fun x => !aloneB x) = false
theorem closed_goes {p : Proto} {n : Nat} {L : List Sys} (h : closedB p n L = true) : ∀ (l : List Op) (x y : Sys), x ∈ L → (∀ o ∈ l, o ∈ opsN n) → goes (stp p) x l = some y → y ∈ L
  | [], x, y, hx, _, hg => by simp only [goes] at hg; injection hg with hg; subst hg; exact hx
  | o :: r, x, y, hx, ho, hg => by
    rw [goes] at hg
    split at hg
    · cases hg
    · refine closed_goes h r _ y ?_ (fun q hq => ho q (List.mem_cons_of_mem _ hq)) hg
      simp only [closedB, Bool.and_eq_true, List.all_eq_true] at h
      have := (h.2.2 x hx o (ho o List.mem_cons_self)).2
      simpa using this
theorem closed_sound {p : Proto} {n : Nat} {L : List Sys} (h : closedB p n L = true) : Sound p n := by
  intro i hend
  have h' := h
  simp only [closedB, Bool.and_eq_true, List.all_eq_true] at h'
  have h0 : first n ∈ L := by simpa using h'.1
  constructor
  · cases hf : (bfsS p n i).2 with
    | none => rfl
    | some f =>
      obtain ⟨l, o, s, rfl, ho, hl, hg, hb⟩ := found (step := stp p) (ops := opsN n) (s0 := first n) (i := i) hf
      have hs := closed_goes h l _ s h0 hl hg
      have := (h'.2.2 s hs o ho).1
      simp [hb] at this
  · rw [List.any_eq_false]
    intro x hx
    obtain ⟨q, hq, rfl⟩ := List.mem_map.1 hx
    obtain ⟨hg, ho⟩ := (inv (step := stp p) (ops := opsN n) (s0 := first n) i).way q hq
    have := h'.2.1 q.1 (closed_goes h q.2 _ _ h0 ho hg)
    simp [this]
set_option maxRecDepth 100000 in
theorem msi_sound (x : Bool) {n : Nat} (h0 : 0 < n) (hn : n ≤ 3) : Sound (msiP (if x then 2 else 1)) n := by
  obtain rfl | rfl | rfl : n = 1 ∨ n = 2 ∨ n = 3 := by omega
  · cases x
    · exact closed_sound (L := reachL (msiP 1) 1) (by decide +kernel)
    · exact closed_sound (L := reachL (msiP 2) 1) (by decide +kernel)
  · cases x
    · exact closed_sound (L := reachL (msiP 1) 2) (by decide +kernel)
    · exact closed_sound (L := reachL (msiP 2) 2) (by decide +kernel)
  · cases x
    · exact closed_sound (L := reachL (msiP 1) 3) (by decide +kernel)
    · exact closed_sound (L := reachL (msiP 2) 3) (by decide +kernel)
set_option maxRecDepth 100000 in
theorem thr_sound (x : Bool) {n : Nat} (h0 : 0 < n) (hn : n ≤ 3) : Sound (thrP (if x then 1 else 0)) n := by
  obtain rfl | rfl | rfl : n = 1 ∨ n = 2 ∨ n = 3 := by omega
  · cases x
    · exact closed_sound (L := reachL (thrP 0) 1) (by decide +kernel)
    · exact closed_sound (L := reachL (thrP 1) 1) (by decide +kernel)
  · cases x
    · exact closed_sound (L := reachL (thrP 0) 2) (by decide +kernel)
    · exact closed_sound (L := reachL (thrP 1) 2) (by decide +kernel)
  · cases x
    · exact closed_sound (L := reachL (thrP 0) 3) (by decide +kernel)
    · exact closed_sound (L := reachL (thrP 1) 3) (by decide +kernel)
theorem bfs_pos (p : Proto) (n i : Nat) : 1 ≤ (bfsS p n i).1.length := by
  have := (inv (step := stp p) (ops := opsN n) (s0 := first n) i).head
  exact (List.getElem?_eq_some_iff.1 this).1
end Go.Proofs.Ytfeabjiccnnpcaa.Ca
