import Derived.Test.YtfeabjiccnnpcaaCg
set_option linter.unusedVariables false
set_option linter.unusedSimpArgs false
namespace Go.Proofs.Ytfeabjiccnnpcaa.Ca

/-- the numbers of a system of n caches -/
structure Sys.Ok (n : Nat) (x : Sys) : Prop where
  lc : x.cs.length = n
  lf : x.fs.length = n
  bd : ∀ j, 0 ≤ x.c j ∧ x.c j ≤ 3
  nf : ∀ j, x.c j = 0 → x.f j = false

theorem Sys.c_become (x : Sys) (i : Nat) (h : Int) (f : Bool) (j : Nat) (hi : i < x.cs.length) : (x.become i h f).c j = if i = j then h else x.c j := by
  simp only [Sys.become, Sys.c, List.getD_eq_getElem?_getD, List.getElem?_set]
  split <;> simp_all
theorem Sys.f_become (x : Sys) (i : Nat) (h : Int) (f : Bool) (j : Nat) (hi : i < x.fs.length) : (x.become i h f).f j = if i = j then (f && (h != 0)) else x.f j := by
  simp only [Sys.become, Sys.f, List.getD_eq_getElem?_getD, List.getElem?_set]
  split <;> simp_all
theorem Sys.Ok.become {n : Nat} {x : Sys} (hx : x.Ok n) (i : Nat) (h : Int) (f : Bool) (hi : i < n) (h0 : 0 ≤ h) (h3 : h ≤ 3) : (x.become i h f).Ok n := by
  have l1 := hx.lc
  have l2 := hx.lf
  refine ⟨by simp [Sys.become, hx.lc], by simp [Sys.become, hx.lf], fun j => ?_, fun j hj => ?_⟩
  · rw [Sys.c_become x i h f j (by omega)]
    split
    · exact ⟨h0, h3⟩
    · exact hx.bd j
  · rw [Sys.c_become x i h f j (by omega)] at hj
    rw [Sys.f_become x i h f j (by omega)]
    split at hj
    · rename_i e; rw [if_pos e]; simp [hj]
    · rename_i e; rw [if_neg e]; exact hx.nf j hj
theorem Sys.Ok.withM {n : Nat} {x : Sys} (hx : x.Ok n) (m : Bool) : (x.withM m).Ok n := ⟨hx.lc, hx.lf, hx.bd, hx.nf⟩
theorem Sys.Ok.clear {n : Nat} {x : Sys} (hx : x.Ok n) : x.clear.Ok n := by
  refine ⟨hx.lc, by simp [Sys.clear, hx.lf], hx.bd, fun j _ => ?_⟩
  simp [Sys.clear, Sys.f, List.getD_eq_getElem?_getD]
  cases x.fs[j]? <;> simp
theorem Sys.Ok.first (n : Nat) : (first n).Ok n := by
  refine ⟨by simp [Ca.first], by simp [Ca.first], fun j => ?_, fun j _ => ?_⟩
  · simp only [Ca.first, Sys.c, List.getD_eq_getElem?_getD, List.getElem?_replicate]
    split <;> simp
  · simp only [Ca.first, Sys.f, List.getD_eq_getElem?_getD, List.getElem?_replicate]
    split <;> simp

theorem okTab_rule {t : List Rule} (h : okTab t = true) (i : Int) (h0 : 0 ≤ i) (h3 : i ≤ 3) : 0 ≤ (rl t i).next ∧ (rl t i).next ≤ 3 ∧ 0 ≤ (rl t i).shared ∧ (rl t i).shared ≤ 3 := by
  simp only [okTab, Bool.and_eq_true, beq_iff_eq, Bool.not_eq_true', List.any_eq_false] at h
  obtain ⟨hl, hb⟩ := h
  have hm : rl t i ∈ t := by
    unfold rl
    have : i.toNat < t.length := by omega
    simp [this]
  have := hb _ hm
  simp [badRule, isCp, inR] at this
  omega
theorem valid_tab {p : Proto} (h : validP p = true) (k : Nat) (hk : k < 5) : okTab (p.tab k) = true := by
  simp only [validP, Bool.and_eq_true, tabsTo] at h
  match k, hk with
  | 0, _ => exact h.1.1.1.1.1.2
  | 1, _ => exact h.1.1.1.1.2
  | 2, _ => exact h.1.1.1.2
  | 3, _ => exact h.1.1.2
  | 4, _ => exact h.1.2
theorem valid_tabs {p : Proto} (h : validP p = true) : tabsTo p 5 = true := by
  simp only [validP, Bool.and_eq_true] at h
  exact h.1
theorem Sys.Ok.see {n : Nat} {x : Sys} (hx : x.Ok n) {t : List Rule} (ht : okTab t = true) (c : Nat) : (see t c x).1.Ok n := by
  show (seeTo t c x x.cs.length).1.Ok n
  have : ∀ i, i ≤ n → (seeTo t c x i).1.Ok n := by
    intro i
    induction i with
    | zero => intro _; exact hx
    | succ i ih =>
      intro hi
      have ih := ih (by omega)
      have b := okTab_rule ht ((seeTo t c x i).1.c i) (ih.bd i).1 (ih.bd i).2
      simp only [seeTo, seeAt]
      split
      · exact ih
      · split
        · exact Sys.Ok.become (Sys.Ok.withM ih _) i _ _ (by omega) b.1 b.2.1
        · exact Sys.Ok.become ih i _ _ (by omega) b.1 b.2.1
  exact this _ (by rw [hx.lc]; exact Nat.le_refl _)
theorem Sys.Ok.step {n : Nat} {x : Sys} (hx : x.Ok n) {p : Proto} (hp : validP p = true) (o : Op) (h0 : 0 ≤ o.cache) (h1 : o.cache < n) : (stepS p x o).1.Ok n := by
  have hc : o.cache.toNat < n := by omega
  have hb := hx.bd o.cache.toNat
  have b0 := okTab_rule (valid_tab hp 0 (by omega)) _ hb.1 hb.2
  have b1 := okTab_rule (valid_tab hp 1 (by omega)) _ hb.1 hb.2
  have b00 := okTab_rule (valid_tab hp 0 (by omega)) 0 (by omega) (by omega)
  have s3 := hx.see (valid_tab hp 3 (by omega)) o.cache.toNat
  have s4 := hx.see (valid_tab hp 4 (by omega)) o.cache.toNat
  simp only [stepS, fin]
  repeat' split
  · exact hx.become _ _ _ hc b0.1 b0.2.1
  · exact s3.become _ _ _ hc b00.2.2.1 b00.2.2.2
  · exact s3.become _ _ _ hc b00.1 b00.2.1
  · exact Sys.Ok.withM (s4.clear.become _ _ _ hc b1.1 b1.2.1) _
  · exact Sys.Ok.withM (s4.clear.become _ _ _ hc b1.1 b1.2.1) _
  · exact Sys.Ok.withM (hx.clear.become _ _ _ hc b1.1 b1.2.1) _
  · exact Sys.Ok.withM (hx.clear.become _ _ _ hc b1.1 b1.2.1) _
  · exact (Sys.Ok.withM hx _).become _ _ _ hc (by omega) (by omega)
  · exact hx.become _ _ _ hc (by omega) (by omega)

/-- a run -/
def runS (p : Proto) : Sys → Int → List Op → Sys × Int
  | x, _, [] => (x, -1)
  | x, k, o :: r => if (stepS p x o).2.1 = true then ((stepS p x o).1, k) else runS p (stepS p x o).1 (k + 1) r
theorem okOps_at {ops : List Op} {n : Nat} (h : okOps ops n = true) (k : Nat) (hk : k < ops.length) : 0 ≤ ops[k].kind ∧ ops[k].kind ≤ 2 ∧ 0 ≤ ops[k].cache ∧ ops[k].cache < n ∧ ops.length ≤ 40 := by
  simp only [okOps, Bool.and_eq_true, decide_eq_true_eq, Bool.not_eq_true', List.any_eq_false] at h
  have := h.2 _ (List.getElem_mem hk)
  simp [okOp, inR] at this
  omega
theorem okOps_len {ops : List Op} {n : Nat} (h : okOps ops n = true) : ops.length ≤ 40 := by
  simp only [okOps, Bool.and_eq_true, decide_eq_true_eq] at h
  exact h.1
end Go.Proofs.Ytfeabjiccnnpcaa.Ca
