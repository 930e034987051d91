import Derived.Test.YtfeabjiccnnpcaaSg
import Derived.RegionTactic
set_option linter.unusedVariables false
set_option linter.unusedSimpArgs false
namespace Go.Proofs.Ytfeabjiccnnpcaa.Inv
open Go

variable {P : Program} {ops : Array Oper} {Q : Exit → Act → World → Prop} {md : Region.Mode}

theorem ready_mem {l : Array Bool} {i : Nat} (h : i ∈ Region.ready md ops l) : ∃ o, ops[i]? = some o ∧ l.getD i true = false ∧ ∀ e ∈ o.after, Region.binds md e = true → l.getD e.on false = true := by
  simp only [Region.ready, List.mem_filter, List.mem_range, Bool.and_eq_true, Bool.not_eq_true'] at h
  obtain ⟨h1, h2, h3⟩ := h
  obtain ⟨o, ho⟩ : ∃ o, ops[i]? = some o := ⟨ops[i], by simp [h1]⟩
  refine ⟨o, ho, h2, fun e he hb => ?_⟩
  rw [ho] at h3
  simp only [Option.map_some, Option.getD_some] at h3
  have := Array.all_eq_true_iff_forall_mem.1 h3 e he
  simpa [hb] using this

theorem ready_nil {l : Array Bool} (hlt : ∀ (i : Nat) (o : Oper), ops[i]? = some o → ∀ e ∈ o.after, e.on < i) (h : Region.ready md ops l = []) (hs : l.size = ops.size) : ∀ n i, i < n → i < ops.size → l.getD i false = true := by
  intro n
  induction n with
  | zero => intro i hi; omega
  | succ n ih =>
    intro i hi hb
    by_cases h1 : l.getD i false = true
    · exact h1
    · exfalso
      have hm : i ∈ Region.ready md ops l := by
        simp only [Region.ready, List.mem_filter, List.mem_range, Bool.and_eq_true, Bool.not_eq_true']
        refine ⟨hb, ?_, ?_⟩
        · have : i < l.size := by omega
          simp [Array.getD, this] at h1 ⊢; simpa using h1
        · have ho : ops[i]? = some ops[i] := by simp [hb]
          rw [ho]
          simp only [Option.map_some, Option.getD_some]
          refine Array.all_eq_true_iff_forall_mem.2 fun e he => ?_
          have := hlt i _ ho e he
          rw [ih e.on (by omega) (by omega)]; simp
      rw [h] at hm; cases hm

theorem count_set {l : Array Bool} {i : Nat} (h : l.getD i true = false) : (l.setIfInBounds i true).toList.count false + 1 = l.toList.count false := by
  have hi : i < l.size := by
    rcases Nat.lt_or_ge i l.size with h1 | h1
    · exact h1
    · simp [Array.getD, Nat.not_lt.2 h1] at h
  have hv : l[i] = false := by simpa [Array.getD, hi] using h
  have hp : 0 < l.toList.count false := List.count_pos_iff.2 (by rw [← hv]; exact Array.getElem_mem_toList hi)
  rw [Array.toList_setIfInBounds, List.count_set (by simpa using hi)]
  have hi' : i < l.toList.length := by simpa using hi
  have e : l.toList[i] = false := by simpa using hv
  rw [e]
  simp only [beq_self_eq_true, if_true]
  have : (true == false) = false := rfl
  rw [this]
  simp only [Bool.false_eq_true, if_false]
  omega

def ltB (ops : Array Oper) : Bool := (List.range ops.size).all fun i => ((ops[i]?).map fun o => o.after.all fun e => decide (e.on < i)).getD true
theorem ltB_out (h : ltB ops = true) : ∀ (i : Nat) (o : Oper), ops[i]? = some o → ∀ e ∈ o.after, e.on < i := by
  intro i o ho e he
  have hi : i < ops.size := by
    rcases Nat.lt_or_ge i ops.size with h1 | h1
    · exact h1
    · rw [Array.getElem?_eq_none h1] at ho; cases ho
  have := List.all_eq_true.1 h i (List.mem_range.2 hi)
  rw [ho] at this
  simp only [Option.map_some, Option.getD_some] at this
  have := Array.all_eq_true_iff_forall_mem.1 this e he
  simpa using this

/-- A region that draws its order, by what holds of what has come up. -/
theorem wpAny_inv (I : Array Bool → Act → World → Prop) (hlt : ∀ (i : Nat) (o : Oper), ops[i]? = some o → ∀ e ∈ o.after, e.on < i)
    (step : ∀ (l : Array Bool) (a : Act) (w : World) (i : Nat) (o : Oper), I l a w → l.size = ops.size → ops[i]? = some o → l.getD i true = false → (∀ e ∈ o.after, Region.binds md e = true → l.getD e.on false = true) →
      ∀ K : Act → World → Prop, (∀ a' w', I (l.setIfInBounds i true) a' w' → K a' w') → if Region.wanted o (yielded ops a.tmps) = true then Oper.wp P o a w K Q else K (a.put o.dst undef) w)
    (fin : ∀ l a w, I l a w → (∀ i, i < ops.size → l.getD i false = true) → Q .normal a w) :
    ∀ fuel l a w, l.size = ops.size → l.toList.count false ≤ fuel → I l a w → wpAny P md ops Q fuel l a w := by
  intro fuel
  induction fuel with
  | zero =>
    intro l a w hs hc hI
    have hr : Region.ready md ops l = [] := by
      cases hr : Region.ready md ops l with
      | nil => rfl
      | cons i rs =>
        obtain ⟨o, _, h2, _⟩ := ready_mem (i := i) (by rw [hr]; exact List.mem_cons_self)
        have := count_set h2
        omega
    exact ⟨hr, fin l a w hI (fun i hi => ready_nil hlt hr hs (i + 1) i (by omega) hi)⟩
  | succ fuel ih =>
    intro l a w hs hc hI
    refine ⟨fun hr => fin l a w hI (fun i hi => ready_nil hlt hr hs (i + 1) i (by omega) hi), fun i hi => ?_⟩
    obtain ⟨o, ho, h2, h3⟩ := ready_mem hi
    refine wpOp_step ho fun K hK => step l a w i o hI hs ho h2 h3 K fun a' w' hI' => hK a' w' ?_
    exact ih _ a' w' (by simpa using hs) (by have := count_set h2; omega) hI'
end Go.Proofs.Ytfeabjiccnnpcaa.Inv
