/- Search in breadth, plain: the states that are reached, each once, and the first of the shortest ways into a flaw. -/
set_option linter.unusedVariables false
set_option linter.unusedSectionVars false
set_option linter.unusedSimpArgs false
namespace Go.Proofs.Ytfeabjiccnnpcaa.Bfs
section
variable {σ ω : Type} [DecidableEq σ]
abbrev BS (σ ω : Type) := List (σ × List ω) × Option (List ω)
/-- the first one that was found -/
def orF (a : Option (List ω)) (f : List ω) : Option (List ω) := match a with
  | none => some f
  | some g => some g
def exp1 (step : σ → ω → σ × Bool) (now : σ × List ω) (st : BS σ ω) (o : ω) : BS σ ω :=
  if (step now.1 o).2 = true then (st.1, orF st.2 (now.2 ++ [o]))
  else if (step now.1 o).1 ∈ st.1.map Prod.fst then st
  else (st.1 ++ [((step now.1 o).1, now.2 ++ [o])], st.2)
def bfsTo (step : σ → ω → σ × Bool) (ops : List ω) (s0 : σ) : Nat → BS σ ω
  | 0 => ([(s0, [])], none)
  | i + 1 => match (bfsTo step ops s0 i).1[i]? with
    | none => bfsTo step ops s0 i
    | some now => ops.foldl (exp1 step now) (bfsTo step ops s0 i)
def goes (step : σ → ω → σ × Bool) (s : σ) : List ω → Option σ
  | [] => some s
  | o :: r => if (step s o).2 = true then none else goes step (step s o).1 r
theorem goes_append (step : σ → ω → σ × Bool) (a b : List ω) : ∀ (s : σ), goes step s (a ++ b) = (goes step s a).bind (fun x => goes step x b) := by
  induction a with
  | nil => intro s; simp [goes]
  | cons o r ih =>
    intro s
    simp only [List.cons_append, goes]
    split
    · rfl
    · exact ih _
variable {step : σ → ω → σ × Bool} {ops : List ω} {s0 : σ}

theorem exp1_flaw {now : σ × List ω} {st : BS σ ω} {o : ω} (h : (step now.1 o).2 = true) : exp1 step now st o = (st.1, orF st.2 (now.2 ++ [o])) := by unfold exp1; rw [if_pos h]
theorem exp1_old {now : σ × List ω} {st : BS σ ω} {o : ω} (h : (step now.1 o).2 = false) (hm : (step now.1 o).1 ∈ st.1.map Prod.fst) : exp1 step now st o = st := by unfold exp1; rw [if_neg (by simp [h]), if_pos hm]
theorem exp1_new {now : σ × List ω} {st : BS σ ω} {o : ω} (h : (step now.1 o).2 = false) (hm : (step now.1 o).1 ∉ st.1.map Prod.fst) : exp1 step now st o = (st.1 ++ [((step now.1 o).1, now.2 ++ [o])], st.2) := by unfold exp1; rw [if_neg (by simp [h]), if_neg hm]

/-- what holds of the nodes found so far -/
structure Good (step : σ → ω → σ × Bool) (ops : List ω) (s0 : σ) (st : BS σ ω) : Prop where
  head : st.1[0]? = some (s0, [])
  way : ∀ q ∈ st.1, goes step s0 q.2 = some q.1 ∧ ∀ o ∈ q.2, o ∈ ops
  nodup : (st.1.map Prod.fst).Nodup
  sorted : st.1.Pairwise (fun a b => a.2.length ≤ b.2.length)
theorem Good.zero : Good step ops s0 (bfsTo step ops s0 0) :=
  ⟨rfl, fun q hq => by simp [bfsTo] at hq; subst hq; exact ⟨rfl, fun o ho => by cases ho⟩, by simp [bfsTo], by simp [bfsTo]⟩
theorem sorted_le {l : List (σ × List ω)} (h : l.Pairwise (fun a b => a.2.length ≤ b.2.length)) {i j : Nat} {a b : σ × List ω} (hi : l[i]? = some a) (hj : l[j]? = some b) (hij : i ≤ j) : a.2.length ≤ b.2.length := by
  obtain ⟨h1, rfl⟩ := List.getElem?_eq_some_iff.1 hi
  obtain ⟨h2, rfl⟩ := List.getElem?_eq_some_iff.1 hj
  rcases Nat.lt_or_ge i j with h3 | h3
  · exact List.pairwise_iff_getElem.1 h i j h1 h2 h3
  · obtain rfl : i = j := by omega
    exact Nat.le_refl _
/-- the invariant of a whole search: the nodes below i have been expanded -/
structure Inv (step : σ → ω → σ × Bool) (ops : List ω) (s0 : σ) (i : Nat) (st : BS σ ω) : Prop extends Good step ops s0 st where
  near : ∀ now, st.1[i]? = some now → ∀ q ∈ st.1, q.2.length ≤ now.2.length + 1
  done : ∀ j now, j < i → st.1[j]? = some now → ∀ o ∈ ops, ((step now.1 o).2 = true → ∃ f, st.2 = some f ∧ f.length ≤ now.2.length + 1) ∧ ((step now.1 o).2 = false → ∃ q ∈ st.1, q.1 = (step now.1 o).1 ∧ q.2.length ≤ now.2.length + 1)
  flaw : ∀ f, st.2 = some f → ∃ j now o, j < i ∧ st.1[j]? = some now ∧ o ∈ ops ∧ f = now.2 ++ [o] ∧ (step now.1 o).2 = true
/-- .. while node i is being expanded: the ops of l have been tried -/
structure Part (step : σ → ω → σ × Bool) (ops : List ω) (s0 : σ) (i : Nat) (now : σ × List ω) (l : List ω) (st : BS σ ω) : Prop extends Good step ops s0 st where
  at_ : st.1[i]? = some now
  near : ∀ q ∈ st.1, q.2.length ≤ now.2.length + 1
  done : ∀ j now, j < i → st.1[j]? = some now → ∀ o ∈ ops, ((step now.1 o).2 = true → ∃ f, st.2 = some f ∧ f.length ≤ now.2.length + 1) ∧ ((step now.1 o).2 = false → ∃ q ∈ st.1, q.1 = (step now.1 o).1 ∧ q.2.length ≤ now.2.length + 1)
  flaw : ∀ f, st.2 = some f → ∃ j now o, j ≤ i ∧ st.1[j]? = some now ∧ o ∈ ops ∧ f = now.2 ++ [o] ∧ (step now.1 o).2 = true
  tried : ∀ o ∈ l, ((step now.1 o).2 = true → ∃ f, st.2 = some f ∧ f.length ≤ now.2.length + 1) ∧ ((step now.1 o).2 = false → ∃ q ∈ st.1, q.1 = (step now.1 o).1 ∧ q.2.length ≤ now.2.length + 1)

theorem Part.next {i : Nat} {now : σ × List ω} {l : List ω} {st : BS σ ω} (h : Part step ops s0 i now l st) (o : ω) (ho : o ∈ ops) : Part step ops s0 i now (l ++ [o]) (exp1 step now st o) := by
  have hnow := h.way now (List.mem_of_getElem? h.at_)
  cases hf : (step now.1 o).2 with
  | true =>
    rw [exp1_flaw hf]
    cases hs : st.2 with
    | some f =>
      have e : ((st.1, some f) : BS σ ω) = st := by rw [← hs]
      simp only [orF]
      rw [e]
      obtain ⟨j, nj, oj, hj, hnj, hoj, rfl, hfj⟩ := h.flaw f hs
      have hle := sorted_le h.sorted hnj h.at_ hj
      refine { h with tried := fun q hq => ?_ }
      rcases List.mem_append.1 hq with hq | hq
      · exact h.tried q hq
      · simp at hq; subst hq
        exact ⟨fun _ => ⟨_, hs, by simp; omega⟩, fun h2 => by rw [hf] at h2; cases h2⟩
    | none =>
      simp only [orF]
      refine { head := h.head, way := h.way, nodup := h.nodup, sorted := h.sorted, at_ := h.at_, near := h.near, done := fun j nj hj hnj q hq => ⟨fun h2 => ?_, (h.done j nj hj hnj q hq).2⟩, flaw := fun f hf2 => ?_, tried := fun q hq => ?_ }
      · obtain ⟨f, h3, _⟩ := (h.done j nj hj hnj q hq).1 h2
        rw [hs] at h3; cases h3
      · simp at hf2; subst hf2
        exact ⟨i, now, o, Nat.le_refl _, h.at_, ho, rfl, hf⟩
      · rcases List.mem_append.1 hq with hq | hq
        · refine ⟨fun h2 => ?_, (h.tried q hq).2⟩
          obtain ⟨f, h3, _⟩ := (h.tried q hq).1 h2
          rw [hs] at h3; cases h3
        · simp at hq; subst hq
          exact ⟨fun _ => ⟨_, rfl, by simp⟩, fun h2 => by rw [hf] at h2; cases h2⟩
  | false =>
    by_cases hm : (step now.1 o).1 ∈ st.1.map Prod.fst
    · rw [exp1_old hf hm]
      refine { h with tried := fun q hq => ?_ }
      rcases List.mem_append.1 hq with hq | hq
      · exact h.tried q hq
      · simp at hq; subst hq
        obtain ⟨q, hq, he⟩ := List.mem_map.1 hm
        exact ⟨(fun h2 => by rw [hf] at h2; cases h2), fun _ => ⟨q, hq, he, h.near q hq⟩⟩
    · rw [exp1_new hf hm]
      have hat : ∀ j nj, st.1[j]? = some nj → (st.1 ++ [((step now.1 o).1, now.2 ++ [o])])[j]? = some nj := fun j nj hj => by
        rw [List.getElem?_append_left (List.getElem?_eq_some_iff.1 hj).1]; exact hj
      have hback : ∀ j nj, j ≤ i → (st.1 ++ [((step now.1 o).1, now.2 ++ [o])])[j]? = some nj → st.1[j]? = some nj := fun j nj hj h2 => by
        have hl := (List.getElem?_eq_some_iff.1 h.at_).1
        rwa [List.getElem?_append_left (by omega)] at h2
      refine { head := hat _ _ h.head, way := fun q hq => ?_, nodup := ?_, sorted := ?_, at_ := hat _ _ h.at_, near := fun q hq => ?_, done := fun j nj hj hnj q hq => ?_, flaw := fun f hf2 => ?_, tried := fun q hq => ?_ }
      · rcases List.mem_append.1 hq with hq | hq
        · exact h.way q hq
        · simp at hq; subst hq
          refine ⟨?_, fun q hq => ?_⟩
          · rw [goes_append, hnow.1]; simp [goes, hf]
          · rcases List.mem_append.1 hq with hq | hq
            · exact hnow.2 q hq
            · simp at hq; subst hq; exact ho
      · simp only [List.map_append, List.map_cons, List.map_nil]
        refine List.nodup_append.2 ⟨h.nodup, by simp, fun a ha b hb => ?_⟩
        simp at hb; subst hb
        exact fun e => hm (e ▸ ha)
      · refine List.pairwise_append.2 ⟨h.sorted, by simp, fun a ha b hb => ?_⟩
        simp at hb; subst hb
        have := h.near a ha
        simpa using this
      · rcases List.mem_append.1 hq with hq | hq
        · exact h.near q hq
        · simp at hq; subst hq; simp
      · have := h.done j nj hj (hback j nj (by omega) hnj) q hq
        refine ⟨this.1, fun h2 => ?_⟩
        obtain ⟨q, hq, h3⟩ := this.2 h2
        exact ⟨q, List.mem_append_left _ hq, h3⟩
      · obtain ⟨j, nj, oj, hj, hnj, rest⟩ := h.flaw f hf2
        exact ⟨j, nj, oj, hj, hat _ _ hnj, rest⟩
      · rcases List.mem_append.1 hq with hq | hq
        · refine ⟨(h.tried q hq).1, fun h2 => ?_⟩
          obtain ⟨q, hq, h3⟩ := (h.tried q hq).2 h2
          exact ⟨q, List.mem_append_left _ hq, h3⟩
        · simp at hq; subst hq
          exact ⟨(fun h2 => by rw [hf] at h2; cases h2), fun _ => ⟨_, List.mem_append_right _ (List.mem_singleton.2 rfl), rfl, by simp⟩⟩
theorem Part.fold {i : Nat} {now : σ × List ω} : ∀ (r l : List ω) {st : BS σ ω}, Part step ops s0 i now l st → (∀ o ∈ r, o ∈ ops) → Part step ops s0 i now (l ++ r) (r.foldl (exp1 step now) st)
  | [], l, st, h, _ => by simpa using h
  | o :: r, l, st, h, ho => by
    have := Part.fold r (l ++ [o]) (h.next o (ho o List.mem_cons_self)) (fun q hq => ho q (List.mem_cons_of_mem _ hq))
    simpa using this
theorem inv (i : Nat) : Inv step ops s0 i (bfsTo step ops s0 i) := by
  induction i with
  | zero => exact { Good.zero with near := fun now h q hq => by simp [bfsTo] at h hq; subst h hq; simp, done := fun j now hj => by omega, flaw := fun f hf => by simp [bfsTo] at hf }
  | succ i ih =>
    simp only [bfsTo]
    split
    · rename_i hn
      refine { ih with near := fun now h => ?_, done := fun j now hj hnj => ?_, flaw := fun f hf => ?_ }
      · have h1 := (List.getElem?_eq_some_iff.1 h).1
        have h2 := List.getElem?_eq_none_iff.1 hn
        omega
      · by_cases h1 : j = i
        · subst h1; rw [hn] at hnj; cases hnj
        · exact ih.done j now (by omega) hnj
      · obtain ⟨j, now, o, hj, rest⟩ := ih.flaw f hf
        exact ⟨j, now, o, by omega, rest⟩
    · rename_i now hn
      have h0 : Part step ops s0 i now [] (bfsTo step ops s0 i) :=
        { toGood := ih.toGood, at_ := hn, near := ih.near now hn, done := ih.done, flaw := fun f hf => by obtain ⟨j, nj, o, hj, rest⟩ := ih.flaw f hf; exact ⟨j, nj, o, by omega, rest⟩, tried := fun o ho => by cases ho }
      have h1 := Part.fold ops [] h0 (fun o ho => ho)
      rw [List.nil_append] at h1
      refine { toGood := h1.toGood, near := fun nx hnx q hq => ?_, done := fun j nj hj hnj o ho => ?_, flaw := fun f hf => ?_ }
      · have := sorted_le h1.sorted h1.at_ hnx (by omega)
        have := h1.near q hq
        omega
      · by_cases h2 : j = i
        · subst h2
          rw [h1.at_] at hnj; cases hnj
          exact h1.tried o ho
        · exact h1.done j nj (by omega) hnj o ho
      · obtain ⟨j, nj, o, hj, rest⟩ := h1.flaw f hf
        exact ⟨j, nj, o, by omega, rest⟩

/-- the search has ended: every state that is reached is among the nodes, by no longer way -/
theorem reach {i : Nat} (hend : (bfsTo step ops s0 i).1.length ≤ i) : ∀ (n : Nat) (l : List ω) (s : σ), l.length = n → (∀ o ∈ l, o ∈ ops) → goes step s0 l = some s → ∃ j q, j < i ∧ (bfsTo step ops s0 i).1[j]? = some q ∧ q.1 = s ∧ q.2.length ≤ l.length
  | 0, l, s, hl, _, hg => by
    have : l = [] := List.length_eq_zero_iff.1 hl
    subst this
    have h := (inv (step := step) (ops := ops) (s0 := s0) i).head
    have hlt := (List.getElem?_eq_some_iff.1 h).1
    simp [goes] at hg
    exact ⟨0, _, by omega, h, hg, by simp⟩
  | n + 1, l, s, hl, ho, hg => by
    have hne : l ≠ [] := by rintro rfl; cases hl
    obtain ⟨m, o, rfl⟩ : ∃ m o, l = m ++ [o] := ⟨l.dropLast, l.getLast hne, (List.dropLast_concat_getLast hne).symm⟩
    rw [goes_append] at hg
    cases hm : goes step s0 m with
    | none => rw [hm] at hg; cases hg
    | some t =>
      rw [hm] at hg
      simp only [Option.bind_some, goes] at hg
      split at hg
      · cases hg
      · rename_i hf
        simp at hg
        obtain ⟨j, q, hj, hq, rfl, hlen⟩ := reach hend n m t (by simpa using hl) (fun x hx => ho x (List.mem_append_left _ hx)) hm
        have hi := inv (step := step) (ops := ops) (s0 := s0) i
        obtain ⟨q2, hq2, h3, h4⟩ := (hi.done j q hj hq o (ho o (by simp))).2 (by simpa using hf)
        obtain ⟨j2, h5⟩ := List.getElem?_of_mem hq2
        have := (List.getElem?_eq_some_iff.1 h5).1
        exact ⟨j2, q2, by omega, h5, h3.trans hg, by simp; omega⟩
/-- no way into a flaw is shorter than the one found -/
theorem shortest {i : Nat} (hend : (bfsTo step ops s0 i).1.length ≤ i) {l : List ω} {s : σ} {o : ω} (hl : ∀ x ∈ l, x ∈ ops) (hg : goes step s0 l = some s) (ho : o ∈ ops) (hf : (step s o).2 = true) : ∃ f, (bfsTo step ops s0 i).2 = some f ∧ f.length ≤ l.length + 1 := by
  obtain ⟨j, q, hj, hq, rfl, hlen⟩ := reach hend l.length l s rfl hl hg
  obtain ⟨f, h1, h2⟩ := ((inv (step := step) (ops := ops) (s0 := s0) i).done j q hj hq o ho).1 hf
  exact ⟨f, h1, by omega⟩
/-- what is found is a way into a flaw -/
theorem found {i : Nat} {f : List ω} (h : (bfsTo step ops s0 i).2 = some f) : ∃ l o s, f = l ++ [o] ∧ o ∈ ops ∧ (∀ x ∈ l, x ∈ ops) ∧ goes step s0 l = some s ∧ (step s o).2 = true := by
  have hi := inv (step := step) (ops := ops) (s0 := s0) i
  obtain ⟨j, q, o, _, hq, ho, rfl, hf⟩ := hi.flaw f h
  have := hi.way q (List.mem_of_getElem? hq)
  exact ⟨q.2, o, q.1, rfl, ho, this.2, this.1, hf⟩
theorem fold_len {now : σ × List ω} : ∀ (r : List ω) (st : BS σ ω), ∀ q ∈ (r.foldl (exp1 step now) st).1, q ∈ st.1 ∨ q.2.length = now.2.length + 1
  | [], st, q, hq => .inl hq
  | o :: r, st, q, hq => by
    rcases fold_len r _ q hq with h | h
    · cases hf : (step now.1 o).2 with
      | true => rw [exp1_flaw hf] at h; exact .inl h
      | false =>
        by_cases hm : (step now.1 o).1 ∈ st.1.map Prod.fst
        · rw [exp1_old hf hm] at h; exact .inl h
        · rw [exp1_new hf hm] at h
          rcases List.mem_append.1 h with h | h
          · exact .inl h
          · simp at h; subst h; exact .inr (by simp)
    · exact .inr h
theorem depth (i : Nat) : ∀ q ∈ (bfsTo step ops s0 i).1, q.2.length ≤ i := by
  induction i with
  | zero => intro q hq; simp [bfsTo] at hq; subst hq; simp
  | succ i ih =>
    intro q hq
    simp only [bfsTo] at hq
    split at hq
    · exact Nat.le_succ_of_le (ih q hq)
    · rename_i now hn
      rcases fold_len ops _ q hq with h | h
      · exact Nat.le_succ_of_le (ih q h)
      · have := ih now (List.mem_of_getElem? hn); omega
theorem still {i : Nat} (hend : (bfsTo step ops s0 i).1.length ≤ i) (k : Nat) : bfsTo step ops s0 (i + k) = bfsTo step ops s0 i := by
  induction k with
  | zero => rfl
  | succ k ih =>
    rw [← Nat.add_assoc, bfsTo, ih, List.getElem?_eq_none (by omega)]
end
end Go.Proofs.Ytfeabjiccnnpcaa.Bfs
