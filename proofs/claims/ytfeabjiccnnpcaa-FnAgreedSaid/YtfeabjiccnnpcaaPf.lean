import Derived.Test.YtfeabjiccnnpcaaKa
import Derived.Test.YtfeabjiccnnpcaaPe
set_option linter.unusedVariables false
set_option linter.unusedSimpArgs false
namespace Go.Proofs.Ytfeabjiccnnpcaa.Ca
open Go.Proofs.Ytfeabjiccnnpcaa.Bfs

def opsN (n : Nat) : List Op := (List.range 3).flatMap fun (k : Nat) => (List.range n).map fun (c : Nat) => ⟨(k : Int), (c : Int)⟩
def stp (p : Proto) (x : Sys) (o : Op) : Sys × Bool := ((stepS p x o).1, (stepS p x o).2.1)
def bfsS (p : Proto) (n i : Nat) : BS Sys Op := bfsTo (stp p) (opsN n) (first n) i
def exC (p : Proto) (now : Sys × List Op) (k : Nat) : Nat → BS Sys Op → BS Sys Op
  | 0, st => st
  | c + 1, st => exp1 (stp p) now (exC p now k c st) ⟨(k : Int), (c : Int)⟩
def exK (p : Proto) (now : Sys × List Op) (n : Nat) : Nat → BS Sys Op → BS Sys Op
  | 0, st => st
  | k + 1, st => exC p now k n (exK p now n k st)
theorem exC_eq (p : Proto) (now : Sys × List Op) (k : Nat) (st : BS Sys Op) (c : Nat) : exC p now k c st = ((List.range c).map fun (c : Nat) => (⟨(k : Int), (c : Int)⟩ : Op)).foldl (exp1 (stp p) now) st := by
  induction c with
  | zero => rfl
  | succ c ih => rw [exC, ih, List.range_succ, List.map_append, List.foldl_append]; rfl
theorem exK_eq (p : Proto) (now : Sys × List Op) (n : Nat) (st : BS Sys Op) (k : Nat) : exK p now n k st = ((List.range k).flatMap fun (k : Nat) => (List.range n).map fun (c : Nat) => (⟨(k : Int), (c : Int)⟩ : Op)).foldl (exp1 (stp p) now) st := by
  induction k with
  | zero => rfl
  | succ k ih => rw [exK, exC_eq, ih, List.range_succ, List.flatMap_append, List.foldl_append]; simp
theorem bfsS_succ (p : Proto) (n i : Nat) (now : Sys × List Op) (h : (bfsS p n i).1[i]? = some now) : bfsS p n (i + 1) = exK p now n 3 (bfsS p n i) := by
  rw [exK_eq]
  show bfsTo (stp p) (opsN n) (first n) (i + 1) = _
  rw [bfsTo]
  have h' : (bfsTo (stp p) (opsN n) (first n) i).1[i]? = some now := h
  rw [h']
  rfl
theorem exp1_len (p : Proto) (now : Sys × List Op) (st : BS Sys Op) (o : Op) : st.1.length ≤ (exp1 (stp p) now st o).1.length := by
  unfold exp1
  split
  · exact Nat.le_refl _
  · split
    · exact Nat.le_refl _
    · simp
theorem exC_mono (p : Proto) (now : Sys × List Op) (k : Nat) (st : BS Sys Op) {c c' : Nat} (h : c ≤ c') : (exC p now k c st).1.length ≤ (exC p now k c' st).1.length := by
  induction h with
  | refl => exact Nat.le_refl _
  | step _ ih => exact Nat.le_trans ih (exp1_len p now _ _)
theorem exK_mono (p : Proto) (now : Sys × List Op) (n : Nat) (st : BS Sys Op) {k k' : Nat} (h : k ≤ k') : (exK p now n k st).1.length ≤ (exK p now n k' st).1.length := by
  induction h with
  | refl => exact Nat.le_refl _
  | step _ ih => exact Nat.le_trans ih (exC_mono p now _ _ (Nat.zero_le _))
theorem part_le (p : Proto) (now : Sys × List Op) (n : Nat) (st : BS Sys Op) {k c : Nat} (hk : k < 3) (hc : c ≤ n) : (exC p now k c (exK p now n k st)).1.length ≤ (exK p now n 3 st).1.length :=
  Nat.le_trans (exC_mono p now k _ hc) (exK_mono p now n st (show k + 1 ≤ 3 by omega))
theorem opsN_mem {n : Nat} {o : Op} : o ∈ opsN n ↔ (0 ≤ o.kind ∧ o.kind ≤ 2) ∧ 0 ≤ o.cache ∧ o.cache < n := by
  simp only [opsN, List.mem_flatMap, List.mem_range, List.mem_map]
  constructor
  · rintro ⟨k, hk, c, hc, rfl⟩
    simp only
    omega
  · rintro ⟨h1, h2, h3⟩
    refine ⟨o.kind.toNat, by omega, o.cache.toNat, by omega, ?_⟩
    obtain ⟨k, c⟩ := o
    simp only at *
    congr 1 <;> omega
theorem goes_Ok {p : Proto} (hp : validP p = true) {n : Nat} : ∀ (l : List Op) (x y : Sys), x.Ok n → (∀ o ∈ l, o ∈ opsN n) → goes (stp p) x l = some y → y.Ok n
  | [], x, y, hx, _, h => by simp [goes] at h; subst h; exact hx
  | o :: r, x, y, hx, ho, h => by
    simp only [goes] at h
    split at h
    · cases h
    · have h1 := opsN_mem.1 (ho o List.mem_cons_self)
      exact goes_Ok hp r _ y (hx.step hp o h1.2.1 h1.2.2) (fun q hq => ho q (List.mem_cons_of_mem _ hq)) h
theorem node_Ok {p : Proto} (hp : validP p = true) {n i : Nat} {q : Sys × List Op} (hq : q ∈ (bfsS p n i).1) : q.1.Ok n := by
  have h := (inv (step := stp p) (ops := opsN n) (s0 := first n) i).way q hq
  exact goes_Ok hp _ _ _ (Sys.Ok.first n) h.2 h.1

/-! numbers of systems -/
def codeCs : List Int → Int → Int
  | [], a => a
  | c :: r, a => codeCs r (4 * a + c)
def codeFs : List Bool → Int → Int
  | [], a => a
  | f :: r, a => codeFs r (2 * a + (if f then 1 else 0))
def codeS (x : Sys) : Int := 2 * codeFs x.fs (codeCs x.cs 0) + (if x.m then 1 else 0)
theorem b01 (b : Bool) : ∃ z : Int, (if b = true then (1 : Int) else 0) = z ∧ 0 ≤ z ∧ z ≤ 1 := by cases b <;> exact ⟨_, rfl, by decide, by decide⟩
theorem b_eq {a b : Bool} (h : (if a = true then (1 : Int) else 0) = (if b = true then 1 else 0)) : a = b := by cases a <;> cases b <;> simp_all
theorem code_lt {n : Nat} (h0 : 0 < n) (hn : n ≤ 3) {x : Sys} (hx : x.Ok n) : 0 ≤ codeS x ∧ codeS x < 1024 := by
  obtain ⟨lc, lf, bd, nf⟩ := hx
  obtain ⟨cs, fs, m⟩ := x
  simp only [Sys.c] at *
  obtain ⟨mz, hm, _, _⟩ := b01 m
  have h3 : n = 1 ∨ n = 2 ∨ n = 3 := by omega
  rcases h3 with rfl | rfl | rfl
  · match cs, fs, lc, lf with
    | [a], [f], _, _ =>
      have b0 := bd 0
      simp at b0
      obtain ⟨z0, e0, _, _⟩ := b01 f
      simp only [codeS, codeCs, codeFs, hm, e0]; omega
  · match cs, fs, lc, lf with
    | [a, b], [f, g], _, _ =>
      have b0 := bd 0
      have b1 := bd 1
      simp at b0 b1
      obtain ⟨z0, e0, _, _⟩ := b01 f
      obtain ⟨z1, e1, _, _⟩ := b01 g
      simp only [codeS, codeCs, codeFs, hm, e0, e1]; omega
  · match cs, fs, lc, lf with
    | [a, b, c], [f, g, h], _, _ =>
      have b0 := bd 0
      have b1 := bd 1
      have b2 := bd 2
      simp at b0 b1 b2
      obtain ⟨z0, e0, _, _⟩ := b01 f
      obtain ⟨z1, e1, _, _⟩ := b01 g
      obtain ⟨z2, e2, _, _⟩ := b01 h
      simp only [codeS, codeCs, codeFs, hm, e0, e1, e2]; omega
theorem code_inj {n : Nat} (h0 : 0 < n) (hn : n ≤ 3) {x y : Sys} (hx : x.Ok n) (hy : y.Ok n) (he : codeS x = codeS y) : x = y := by
  obtain ⟨lc, lf, bd, nf⟩ := hx
  obtain ⟨lc', lf', bd', nf'⟩ := hy
  obtain ⟨cs, fs, m⟩ := x
  obtain ⟨cs', fs', m'⟩ := y
  simp only [Sys.c] at *
  obtain ⟨mz, hm, _, _⟩ := b01 m
  obtain ⟨mz', hm', _, _⟩ := b01 m'
  have h3 : n = 1 ∨ n = 2 ∨ n = 3 := by omega
  rcases h3 with rfl | rfl | rfl
  · match cs, fs, lc, lf, cs', fs', lc', lf' with
    | [a], [f], _, _, [a'], [f'], _, _ =>
      have b0 := bd 0
      have b0' := bd' 0
      simp at b0 b0'
      obtain ⟨z0, e0, _, _⟩ := b01 f
      obtain ⟨z0', e0', _, _⟩ := b01 f'
      simp only [codeS, codeCs, codeFs, hm, e0, hm', e0'] at he
      obtain rfl : a = a' := by omega
      obtain rfl : f = f' := b_eq (by rw [e0, e0']; omega)
      obtain rfl : m = m' := b_eq (by rw [hm, hm']; omega)
      rfl
  · match cs, fs, lc, lf, cs', fs', lc', lf' with
    | [a, b], [f, g], _, _, [a', b'], [f', g'], _, _ =>
      have b0 := bd 0
      have b1 := bd 1
      have b0' := bd' 0
      have b1' := bd' 1
      simp at b0 b1 b0' b1'
      obtain ⟨z0, e0, _, _⟩ := b01 f
      obtain ⟨z1, e1, _, _⟩ := b01 g
      obtain ⟨z0', e0', _, _⟩ := b01 f'
      obtain ⟨z1', e1', _, _⟩ := b01 g'
      simp only [codeS, codeCs, codeFs, hm, e0, e1, hm', e0', e1'] at he
      obtain rfl : a = a' := by omega
      obtain rfl : b = b' := by omega
      obtain rfl : f = f' := b_eq (by rw [e0, e0']; omega)
      obtain rfl : g = g' := b_eq (by rw [e1, e1']; omega)
      obtain rfl : m = m' := b_eq (by rw [hm, hm']; omega)
      rfl
  · match cs, fs, lc, lf, cs', fs', lc', lf' with
    | [a, b, c], [f, g, h], _, _, [a', b', c'], [f', g', h'], _, _ =>
      have b0 := bd 0
      have b1 := bd 1
      have b2 := bd 2
      have b0' := bd' 0
      have b1' := bd' 1
      have b2' := bd' 2
      simp at b0 b1 b2 b0' b1' b2'
      obtain ⟨z0, e0, _, _⟩ := b01 f
      obtain ⟨z1, e1, _, _⟩ := b01 g
      obtain ⟨z2, e2, _, _⟩ := b01 h
      obtain ⟨z0', e0', _, _⟩ := b01 f'
      obtain ⟨z1', e1', _, _⟩ := b01 g'
      obtain ⟨z2', e2', _, _⟩ := b01 h'
      simp only [codeS, codeCs, codeFs, hm, e0, e1, e2, hm', e0', e1', e2'] at he
      obtain rfl : a = a' := by omega
      obtain rfl : b = b' := by omega
      obtain rfl : c = c' := by omega
      obtain rfl : f = f' := b_eq (by rw [e0, e0']; omega)
      obtain rfl : g = g' := b_eq (by rw [e1, e1']; omega)
      obtain rfl : h = h' := b_eq (by rw [e2, e2']; omega)
      obtain rfl : m = m' := b_eq (by rw [hm, hm']; omega)
      rfl
theorem nodup_bound : ∀ (N : Nat) (l : List Nat), l.Nodup → (∀ x ∈ l, x < N) → l.length ≤ N
  | 0, l, _, h => by
    cases l with
    | nil => simp
    | cons a r => have := h a List.mem_cons_self; omega
  | N + 1, l, hd, h => by
    by_cases hm : N ∈ l
    · have h1 := nodup_bound N (l.erase N) (hd.erase N) (fun x hx => by
        have := h x (List.mem_of_mem_erase hx)
        have hne : x ≠ N := fun e => by subst e; exact (hd.not_mem_erase hx)
        omega)
      rw [List.length_erase_of_mem hm] at h1
      omega
    · have := nodup_bound N l hd (fun x hx => by
        have h1 := h x hx
        have hne : x ≠ N := fun e => hm (e ▸ hx)
        omega)
      omega
theorem nodes_le {p : Proto} (hp : validP p = true) {n : Nat} (h0 : 0 < n) (hn : n ≤ 3) (i : Nat) : (bfsS p n i).1.length ≤ 1024 := by
  have hi := inv (step := stp p) (ops := opsN n) (s0 := first n) i
  have h1 : (((bfsS p n i).1.map Prod.fst).map fun x => (codeS x).toNat).Nodup := by
    rw [List.Nodup, List.pairwise_map]
    refine List.Pairwise.imp_of_mem ?_ hi.nodup
    intro a b ha hb hne he
    obtain ⟨qa, hqa, rfl⟩ := List.mem_map.1 ha
    obtain ⟨qb, hqb, rfl⟩ := List.mem_map.1 hb
    have oa := node_Ok hp hqa
    have ob := node_Ok hp hqb
    have := code_lt h0 hn oa
    have := code_lt h0 hn ob
    exact hne (code_inj h0 hn oa ob (by omega))
  have h2 := nodup_bound 1024 _ h1 (fun x hx => by
    obtain ⟨y, hy, rfl⟩ := List.mem_map.1 hx
    obtain ⟨q, hq, rfl⟩ := List.mem_map.1 hy
    have := code_lt h0 hn (node_Ok hp hq)
    omega)
  simpa using h2

/-! texts of systems -/
theorem keyAt_head (c : Int) (f : Bool) (h0 : 0 ≤ c) (h3 : c ≤ 3) (s : List UInt8) : (keyAt c f ++ s).head? = some (UInt8.ofNat (48 + c).toNat) ∧ UInt8.ofNat (48 + c).toNat ≠ 102 := by
  refine ⟨rfl, ?_⟩
  have : c = 0 ∨ c = 1 ∨ c = 2 ∨ c = 3 := by omega
  rcases this with rfl | rfl | rfl | rfl <;> decide
theorem byte_inj {a b : Int} (ha : 0 ≤ a ∧ a ≤ 3) (hb : 0 ≤ b ∧ b ≤ 3) (h : UInt8.ofNat (48 + a).toNat = UInt8.ofNat (48 + b).toNat) : a = b := by
  have h1 := byte48 a ha.1 ha.2
  have h2 := byte48 b hb.1 hb.2
  rw [h] at h1
  omega
theorem keyTo_inj {x y : Sys} (hx : ∀ j, 0 ≤ x.c j ∧ x.c j ≤ 3) (hy : ∀ j, 0 ≤ y.c j ∧ y.c j ≤ 3) : ∀ (k : Nat) (s t : List UInt8), s.head? ≠ some 102 → t.head? ≠ some 102 → keyTo x k ++ s = keyTo y k ++ t → (∀ i, i < k → x.c i = y.c i ∧ x.f i = y.f i) ∧ s = t
  | 0, s, t, _, _, h => ⟨fun i hi => by omega, by simpa [keyTo] using h⟩
  | k + 1, s, t, hs, ht, h => by
    have h1 := keyAt_head (x.c k) (x.f k) (hx k).1 (hx k).2 s
    have h2 := keyAt_head (y.c k) (y.f k) (hy k).1 (hy k).2 t
    simp only [keyTo, List.append_assoc] at h
    obtain ⟨ih, he⟩ := keyTo_inj hx hy k (keyAt (x.c k) (x.f k) ++ s) (keyAt (y.c k) (y.f k) ++ t) (by rw [h1.1]; simpa using h1.2) (by rw [h2.1]; simpa using h2.2) h
    simp only [keyAt, List.cons_append] at he
    injection he with e1 e2
    have ec := byte_inj (hx k) (hy k) e1
    have key : x.f k = y.f k ∧ s = t := by
      cases hf : x.f k <;> cases hg : y.f k <;> rw [hf, hg] at e2
      · exact ⟨rfl, by simpa using e2⟩
      · simp at e2; rw [e2] at hs; simp at hs
      · simp at e2; rw [← e2] at ht; simp at ht
      · exact ⟨rfl, by simpa using e2⟩
    refine ⟨fun i hi => ?_, key.2⟩
    by_cases hik : i = k
    · subst hik; exact ⟨ec, key.1⟩
    · exact ih i (by omega)
theorem sys_ext {n : Nat} {x y : Sys} (hx : x.Ok n) (hy : y.Ok n) (h : ∀ i, i < n → x.c i = y.c i ∧ x.f i = y.f i) (hm : x.m = y.m) : x = y := by
  have l1 := hx.lc
  have l2 := hx.lf
  have l3 := hy.lc
  have l4 := hy.lf
  obtain ⟨cs, fs, m⟩ := x
  obtain ⟨cs', fs', m'⟩ := y
  simp only [Sys.c, Sys.f] at *
  have e1 : cs = cs' := List.ext_getElem (by omega) (fun i h1 h2 => by have := (h i (by omega)).1; simpa [h1, h2] using this)
  have e2 : fs = fs' := List.ext_getElem (by omega) (fun i h1 h2 => by have := (h i (by omega)).2; simpa [h1, h2] using this)
  rw [e1, e2, hm]
theorem key_inj {n : Nat} {x y : Sys} (hx : x.Ok n) (hy : y.Ok n) (h : keyS x = keyS y) : x = y := by
  simp only [keyS, hx.lc, hy.lc] at h
  have hm : ∀ b : Bool, (if b = true then ([109] : List UInt8) else []).head? ≠ some 102 := fun b => by cases b <;> decide
  obtain ⟨h1, h2⟩ := keyTo_inj hx.bd hy.bd n _ _ (hm x.m) (hm y.m) h
  refine sys_ext hx hy h1 ?_
  cases e1 : x.m <;> cases e2 : y.m <;> rw [e1, e2] at h2 <;> simp at h2 <;> rfl
end Go.Proofs.Ytfeabjiccnnpcaa.Ca
