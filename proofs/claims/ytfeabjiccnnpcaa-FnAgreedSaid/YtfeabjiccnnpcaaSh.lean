import Derived.Test.YtfeabjiccnnpcaaInv
import Derived.Test.YtfeabjiccnnpcaaWApart
set_option linter.unusedVariables false
set_option linter.unusedSimpArgs false
namespace Go.Proofs.Ytfeabjiccnnpcaa.Ca
open Go.RowKit Go.Proofs.YtfeabjiccnnpcaaW.PrintWords Go.Proofs.YtfeabjiccnnpcaaW.PrintLast Go.Proofs.Ytfeabjiccnnpcaa.Ba Go.Proofs.Ytfeabjiccnnpcaa.Inv

/-- what an operation of l10Own's region leaves in its slot -/
def oVal (h : Nat) (AA : Nat → Option Addr) (cc : Nat → Nat) (E X C : Nat → Nat) (m : Nat) : Value :=
  if m = 30 then .agg #[.slice (some ⟨X 0, 0, none⟩) 4 (C 0), .slice (some ⟨X 1, 0, none⟩) 4 (C 1), .slice (some ⟨X 2, 0, none⟩) 4 (C 2), .slice (some ⟨X 3, 0, none⟩) 4 (C 3), .slice (some ⟨X 4, 0, none⟩) 4 (C 4)]
  else match m % 6 with
    | 0 => .slice (some ⟨E (m / 6), 0, none⟩) 0 0
    | 1 => .pointer (some ⟨h, 0, none⟩)
    | 2 => .pointer (some ⟨h, 0, none⟩)
    | 3 => .pointer (some ⟨h, m / 6, none⟩)
    | 4 => .slice (AA (m / 6)) 4 (cc (m / 6))
    | _ => .slice (some ⟨X (m / 6), 0, none⟩) 4 (C (m / 6))

def oBlk (l : Array Bool) (E X : Nat → Nat) (i : Nat) : Nat := if l.getD (6 * i + 5) false = true then X i else E i

/-- the region's state: which operations have come up, what lies in their slots, and the rows made so far -/
structure OInv (h ws : Nat) (p : Proto) (AA : Nat → Option Addr) (cc : Nat → Nat) (w0 : World) (E X C : Nat → Nat) (l : Array Bool) (a : Act) (w : World) : Prop where
  size : a.tmps.size = 34
  dfr : a.defers = []
  t0 : a.tmps.getD 0 undef = .pointer (some ⟨h, 0, none⟩)
  t2 : a.tmps.getD 2 undef = .pointer (some ⟨ws, 0, none⟩)
  slot : ∀ m, m < 31 → l.getD m false = true → a.tmps.getD (m + 3) undef = oVal h AA cc E X C m
  below : Below ws w0 w
  room : ws < w.heap.size
  box : l.getD 31 false = false → w.heap[ws]? = some (.cells #[.slice none 0 0, .slice none 0 0, .slice none 0 0, .slice none 0 0, .slice none 0 0] 50 (0, 0))
  made : l.getD 31 false = true → w.heap[ws]? = some (.cells #[.slice (some ⟨X 0, 0, none⟩) 4 (C 0), .slice (some ⟨X 1, 0, none⟩) 4 (C 1), .slice (some ⟨X 2, 0, none⟩) 4 (C 2), .slice (some ⟨X 3, 0, none⟩) 4 (C 3), .slice (some ⟨X 4, 0, none⟩) 4 (C 4)] 50 (0, 0))
  empty : ∀ i, i < 5 → l.getD (6 * i) false = true → l.getD (6 * i + 5) false = false → kRule.R 145 w (ws + 1) (fun k => k = E i) (.slice (some ⟨E i, 0, none⟩) 0 0) []
  full : ∀ i, i < 5 → l.getD (6 * i + 5) false = true → kRule.R 145 w (ws + 1) (fun k => k = X i) (.slice (some ⟨X i, 0, none⟩) 4 (C i)) (p.tab i)
  order : ∀ i, i < 5 → l.getD (6 * i + 5) false = true → l.getD (6 * i) false = true
  last : l.getD 30 false = true → ∀ i, i < 5 → l.getD (6 * i + 5) false = true
  end31 : l.getD 31 false = true → l.getD 30 false = true
  inside : ∀ i, i < 5 → l.getD (6 * i) false = true → ws < oBlk l E X i ∧ oBlk l E X i < w.heap.size
  apart : ∀ i j, i < 5 → j < 5 → i ≠ j → l.getD (6 * i) false = true → l.getD (6 * j) false = true → oBlk l E X i ≠ oBlk l E X j

theorem getD_set (l : Array Bool) (i j : Nat) (d : Bool) : (l.setIfInBounds i true).getD j d = if i = j ∧ i < l.size then true else l.getD j d := by
  by_cases h : j < l.size
  · by_cases e : i = j
    · subst e; simp [Array.getD, h]
    · simp [Array.getD, h, e, Array.getElem_setIfInBounds]
  · by_cases e : i = j
    · subst e; simp [Array.getD, h]
    · simp [Array.getD, h, e]
theorem getD_put (a : Act) (s t : Nat) (v : Value) (hs : s < a.tmps.size) : (a.put (some s) v).tmps.getD t undef = if s = t then v else a.tmps.getD t undef := by
  unfold Act.put
  by_cases h : t < a.tmps.size
  · by_cases e : s = t
    · subst e; simp [Array.getD, h]
    · simp [Array.getD, h, e, Array.getElem_setIfInBounds]
  · have e : s ≠ t := by omega
    simp [Array.getD, h, e]

/-- a pure operation comes up -/
theorem OInv.pure {h ws : Nat} {p : Proto} {AA : Nat → Option Addr} {cc : Nat → Nat} {w0 : World} {E X C : Nat → Nat} {l : Array Bool} {a : Act} {w : World} (hI : OInv h ws p AA cc w0 E X C l a w) (hl : l.size = 32) (m : Nat) (hm : m < 30) (h0 : m % 6 ≠ 0) (h5 : m % 6 ≠ 5) : OInv h ws p AA cc w0 E X C (l.setIfInBounds m true) (a.put (some (m + 3)) (oVal h AA cc E X C m)) w := by
  have hz := hI.size
  have e5 : ∀ i, i < 5 → (l.setIfInBounds m true).getD (6 * i + 5) false = l.getD (6 * i + 5) false := fun i hi => by rw [getD_set, if_neg (by omega)]
  have e0 : ∀ i, i < 5 → (l.setIfInBounds m true).getD (6 * i) false = l.getD (6 * i) false := fun i hi => by rw [getD_set, if_neg (by omega)]
  have e31 : (l.setIfInBounds m true).getD 31 false = l.getD 31 false := by rw [getD_set, if_neg (by omega)]
  have e30 : (l.setIfInBounds m true).getD 30 false = l.getD 30 false := by rw [getD_set, if_neg (by omega)]
  have eb : ∀ i, i < 5 → oBlk (l.setIfInBounds m true) E X i = oBlk l E X i := fun i hi => by rw [oBlk, oBlk, e5 i hi]
  refine ⟨?_, hI.dfr, ?_, ?_, ?_, hI.below, hI.room, by rw [e31]; exact hI.box, by rw [e31]; exact hI.made, fun i hi => by rw [e0 i hi, e5 i hi]; exact hI.empty i hi, fun i hi => by rw [e5 i hi]; exact hI.full i hi, fun i hi => by rw [e0 i hi, e5 i hi]; exact hI.order i hi, fun h i hi => by rw [e30] at h; rw [e5 i hi]; exact hI.last h i hi, fun h => by rw [e31] at h; rw [e30]; exact hI.end31 h, fun i hi => by rw [e0 i hi, eb i hi]; exact hI.inside i hi, fun i j hi hj hij => by rw [e0 i hi, e0 j hj, eb i hi, eb j hj]; exact hI.apart i j hi hj hij⟩
  · simp [Act.put, hz]
  · rw [getD_put _ _ _ _ (by omega), if_neg (by omega)]; exact hI.t0
  · rw [getD_put _ _ _ _ (by omega), if_neg (by omega)]; exact hI.t2
  · intro q hq hlq
    rw [getD_put _ _ _ _ (by omega)]
    by_cases e : m = q
    · subst e; rw [if_pos rfl]
    · rw [if_neg (by omega)]
      rw [getD_set, if_neg (by omega)] at hlq
      exact hI.slot q hq hlq

/-- a row of flat elements owns its own block alone -/
theorem R_oneR {e : Nat} {w : World} {base : Nat} {ok : Nat → Prop} {g n c : Nat} {xs : List Rule} (h : kRule.R e w base ok (.slice (some ⟨g, 0, none⟩) n c) xs) : kRule.R e w base (fun k => k = g) (.slice (some ⟨g, 0, none⟩) n c) xs := by
  have := Kd.R_tight (d := kRule) rfl h
  exact Kd.R_mono this (fun k hk => by simpa [Value.ownBlock] using hk)

def upd (f : Nat → Nat) (i v : Nat) : Nat → Nat := fun j => if j = i then v else f j

/-- an empty row is made -/
theorem OInv.lit {h ws : Nat} {p : Proto} {AA : Nat → Option Addr} {cc : Nat → Nat} {w0 : World} {E X C : Nat → Nat} {l : Array Bool} {a : Act} {w : World} (hI : OInv h ws p AA cc w0 E X C l a w) (hl : l.size = 32) (i : Nat) (hi : i < 5) (hn : l.getD (6 * i) true = false) :
    OInv h ws p AA cc w0 (upd E i w.heap.size) X C (l.setIfInBounds (6 * i) true) (a.put (some (6 * i + 3)) (.slice (some ⟨w.heap.size, 0, none⟩) 0 0)) (w.alloc (.cells #[] 145)) := by
  have hz := hI.size
  have hn0 : l.getD (6 * i) false = false := by
    have hb : 6 * i < l.size := by omega
    simpa [Array.getD, hb] using hn
  have hn5 : l.getD (6 * i + 5) false = false := by
    cases e : l.getD (6 * i + 5) false with
    | false => rfl
    | true => rw [hI.order i hi e] at hn0; cases hn0
  have e5 : ∀ j, j < 5 → (l.setIfInBounds (6 * i) true).getD (6 * j + 5) false = l.getD (6 * j + 5) false := fun j hj => by rw [getD_set, if_neg (by omega)]
  have e0 : ∀ j, j < 5 → j ≠ i → (l.setIfInBounds (6 * i) true).getD (6 * j) false = l.getD (6 * j) false := fun j hj hne => by rw [getD_set, if_neg (by omega)]
  have e0i : (l.setIfInBounds (6 * i) true).getD (6 * i) false = true := by rw [getD_set, if_pos ⟨rfl, by omega⟩]
  have e31 : (l.setIfInBounds (6 * i) true).getD 31 false = l.getD 31 false := by rw [getD_set, if_neg (by omega)]
  have e30 : (l.setIfInBounds (6 * i) true).getD 30 false = l.getD 30 false := by rw [getD_set, if_neg (by omega)]
  have u0 : upd E i w.heap.size i = w.heap.size := by simp [upd]
  have u1 : ∀ j, j ≠ i → upd E i w.heap.size j = E j := fun j hj => by simp [upd, hj]
  have eb : ∀ j, j < 5 → j ≠ i → oBlk (l.setIfInBounds (6 * i) true) (upd E i w.heap.size) X j = oBlk l E X j := fun j hj hne => by rw [oBlk, oBlk, e5 j hj, u1 j hne]
  have ebi : oBlk (l.setIfInBounds (6 * i) true) (upd E i w.heap.size) X i = w.heap.size := by rw [oBlk, e5 i hi, hn5, u0]; simp
  have hrm := hI.room
  have hB : Below w.heap.size w (w.alloc (.cells #[] 145)) := (Below.refl _ _).alloc (Nat.le_refl _) _
  refine ⟨by simp [Act.put, hz], hI.dfr, ?_, ?_, ?_, hI.below.alloc (by omega) _, by simp; omega, ?_, ?_, ?_, ?_, ?_, ?_, ?_, ?_, ?_⟩
  · rw [getD_put _ _ _ _ (by omega), if_neg (by omega)]; exact hI.t0
  · rw [getD_put _ _ _ _ (by omega), if_neg (by omega)]; exact hI.t2
  · intro q hq hlq
    rw [getD_put _ _ _ _ (by omega)]
    by_cases e : 6 * i = q
    · subst e
      rw [if_pos rfl, oVal, if_neg (by omega), show 6 * i % 6 = 0 by omega, show 6 * i / 6 = i by omega, u0]
      rfl
    · rw [if_neg (by omega)]
      rw [getD_set, if_neg (by omega)] at hlq
      rw [hI.slot q hq hlq, oVal, oVal]
      split
      · rfl
      · split
        · rename_i h6; rw [u1 _ (by omega)]
        all_goals rfl
  · intro h; rw [e31] at h; rw [hB.block _ hrm]; exact hI.box h
  · intro h; rw [e31] at h; rw [hB.block _ hrm]; exact hI.made h
  · intro j hj h0 h5
    by_cases e : j = i
    · subst e; rw [u0]; exact R_lit0 kRule 145 (ws + 1) w (by omega) _ rfl
    · rw [e0 j hj e] at h0; rw [e5 j hj] at h5; rw [u1 j e]
      exact Kd.R_below (hI.empty j hj h0 h5) hB
  · intro j hj h5
    rw [e5 j hj] at h5
    exact Kd.R_below (hI.full j hj h5) hB
  · intro j hj h5
    rw [e5 j hj] at h5
    by_cases e : j = i
    · subst e; exact e0i
    · rw [e0 j hj e]; exact hI.order j hj h5
  · intro h j hj; rw [e30] at h; rw [e5 j hj]; exact hI.last h j hj
  · intro h; rw [e31] at h; rw [e30]; exact hI.end31 h
  · intro j hj h0
    by_cases e : j = i
    · subst e; rw [ebi]; simp; omega
    · rw [e0 j hj e] at h0; rw [eb j hj e]; have := hI.inside j hj h0; simp; omega
  · intro j k hj hk hjk h0 h1
    by_cases e : j = i
    · subst e
      rw [e0 k hk (fun e => hjk e.symm)] at h1
      rw [ebi, eb k hk (fun e => hjk e.symm)]; have := hI.inside k hk h1; omega
    · rw [e0 j hj e] at h0
      rw [eb j hj e]
      by_cases e2 : k = i
      · subst e2; rw [ebi]; have := hI.inside j hj h0; omega
      · rw [e0 k hk e2] at h1
        rw [eb k hk e2]; exact hI.apart j k hj hk hjk h0 h1

/-- a row is appended to an empty one -/
theorem OInv.app {h ws : Nat} {p : Proto} {AA : Nat → Option Addr} {cc : Nat → Nat} {w0 : World} {E X C : Nat → Nat} {l : Array Bool} {a : Act} {w w1 : World} (hI : OInv h ws p AA cc w0 E X C l a w) (hl : l.size = 32) (i : Nat) (hi : i < 5) (hn : l.getD (6 * i + 5) true = false) (h0 : l.getD (6 * i) false = true) (x c : Nat)
    (hR : kRule.R 145 w1 (ws + 1) (fun k => k = E i ∨ w.heap.size ≤ k) (.slice (some ⟨x, 0, none⟩) 4 c) (p.tab i)) (hB : Below (ws + 1) w w1) (hg : w.grownBy w1 (some (E i))) (hx : x = E i ∨ w.heap.size ≤ x) (hx1 : x < w1.heap.size) :
    OInv h ws p AA cc w0 E (upd X i x) (upd C i c) (l.setIfInBounds (6 * i + 5) true) (a.put (some (6 * i + 8)) (.slice (some ⟨x, 0, none⟩) 4 c)) w1 := by
  have hz := hI.size
  have hn5 : l.getD (6 * i + 5) false = false := by
    have hb : 6 * i + 5 < l.size := by omega
    simpa [Array.getD, hb] using hn
  have hn30 : l.getD 30 false = false := by
    cases e : l.getD 30 false with
    | false => rfl
    | true => rw [hI.last e i hi] at hn5; cases hn5
  have hn31 : l.getD 31 false = false := by
    cases e : l.getD 31 false with
    | false => rfl
    | true => rw [hI.end31 e] at hn30; cases hn30
  have e0 : ∀ j, j < 5 → (l.setIfInBounds (6 * i + 5) true).getD (6 * j) false = l.getD (6 * j) false := fun j hj => by rw [getD_set, if_neg (by omega)]
  have e5 : ∀ j, j < 5 → j ≠ i → (l.setIfInBounds (6 * i + 5) true).getD (6 * j + 5) false = l.getD (6 * j + 5) false := fun j hj hne => by rw [getD_set, if_neg (by omega)]
  have e5i : (l.setIfInBounds (6 * i + 5) true).getD (6 * i + 5) false = true := by rw [getD_set, if_pos ⟨rfl, by omega⟩]
  have e31 : (l.setIfInBounds (6 * i + 5) true).getD 31 false = false := by rw [getD_set, if_neg (by omega)]; exact hn31
  have e30 : (l.setIfInBounds (6 * i + 5) true).getD 30 false = false := by rw [getD_set, if_neg (by omega)]; exact hn30
  have u0 : upd X i x i = x := by simp [upd]
  have u1 : ∀ j, j ≠ i → upd X i x j = X j := fun j hj => by simp [upd, hj]
  have v0 : upd C i c i = c := by simp [upd]
  have v1 : ∀ j, j ≠ i → upd C i c j = C j := fun j hj => by simp [upd, hj]
  have eb : ∀ j, j < 5 → j ≠ i → oBlk (l.setIfInBounds (6 * i + 5) true) E (upd X i x) j = oBlk l E X j := fun j hj hne => by rw [oBlk, oBlk, e5 j hj hne, u1 j hne]
  have ebi : oBlk (l.setIfInBounds (6 * i + 5) true) E (upd X i x) i = x := by rw [oBlk, e5i, u0]; simp
  have hbi : oBlk l E X i = E i := by rw [oBlk, hn5]; simp
  have hin := hI.inside i hi h0
  rw [hbi] at hin
  have hrm := hI.room
  have hsz := hg.size
  have hne : ∀ j, j < 5 → j ≠ i → l.getD (6 * j) false = true → oBlk l E X j ≠ E i := fun j hj hji hj0 => by rw [← hbi]; exact hI.apart j i hj hi hji hj0 h0
  refine ⟨by simp [Act.put, hz], hI.dfr, ?_, ?_, ?_, hI.below.trans (hB.mono (by omega)), by omega, ?_, ?_, ?_, ?_, ?_, ?_, ?_, ?_, ?_⟩
  · rw [getD_put _ _ _ _ (by omega), if_neg (by omega)]; exact hI.t0
  · rw [getD_put _ _ _ _ (by omega), if_neg (by omega)]; exact hI.t2
  · intro q hq hlq
    rw [getD_put _ _ _ _ (by omega)]
    by_cases e : 6 * i + 5 = q
    · subst e
      rw [if_pos (by omega), oVal, if_neg (by omega), show (6 * i + 5) % 6 = 5 by omega, show (6 * i + 5) / 6 = i by omega]
      simp only [u0, v0]
    · rw [if_neg (by omega)]
      rw [getD_set, if_neg (by omega)] at hlq
      have hq30 : q ≠ 30 := fun e => by rw [e, hn30] at hlq; cases hlq
      rw [hI.slot q hq hlq, oVal, oVal, if_neg hq30, if_neg hq30]
      split
      all_goals first | rfl | skip
      rename_i a1 a2 a3 a4 a5
      have hd : q / 6 ≠ i := by
        intro hd
        have : q % 6 = 0 ∨ q % 6 = 1 ∨ q % 6 = 2 ∨ q % 6 = 3 ∨ q % 6 = 4 ∨ q % 6 = 5 := by omega
        rcases this with h | h | h | h | h | h
        · exact a1 h
        · exact a2 h
        · exact a3 h
        · exact a4 h
        · exact a5 h
        · omega
      rw [u1 _ hd, v1 _ hd]
  · intro _; rw [hB.block _ (by omega)]; exact hI.box hn31
  · intro h; rw [e31] at h; cases h
  · intro j hj h0 h5
    have e : j ≠ i := fun e => by subst e; rw [e5i] at h5; cases h5
    rw [e0 j hj] at h0; rw [e5 j hj e] at h5
    have hne := hne j hj e h0
    rw [oBlk, h5] at hne
    exact Kd.R_grown (hI.empty j hj h0 h5) hg (fun k hk e => by injection e with e; subst hk; simp at hne; exact hne e)
  · intro j hj h5
    by_cases e : j = i
    · subst e
      rw [u0, v0]
      exact R_oneR hR
    · rw [e5 j hj e] at h5
      rw [u1 j e, v1 j e]
      have hne := hne j hj e (hI.order j hj h5)
      rw [oBlk, h5] at hne
      exact Kd.R_grown (hI.full j hj h5) hg (fun k hk e => by injection e with e; subst hk; simp at hne; exact hne e)
  · intro j hj h5
    rw [e0 j hj]
    by_cases e : j = i
    · subst e; exact h0
    · rw [e5 j hj e] at h5; exact hI.order j hj h5
  · intro h j hj; rw [e30] at h; cases h
  · intro h; rw [e31] at h; cases h
  · intro j hj h0
    rw [e0 j hj] at h0
    by_cases e : j = i
    · subst e; rw [ebi]; omega
    · rw [eb j hj e]; have := hI.inside j hj h0; omega
  · intro j k hj hk hjk hj0 h1
    rw [e0 j hj] at hj0
    rw [e0 k hk] at h1
    by_cases e : j = i
    · subst e
      have e2 : k ≠ j := fun e => hjk e.symm
      rw [ebi, eb k hk e2]
      have a1 := hne k hk e2 h1
      have a2 := (hI.inside k hk h1).2
      omega
    · rw [eb j hj e]
      by_cases e2 : k = i
      · subst e2; rw [ebi]
        have a1 := hne j hj e hj0
        have a2 := (hI.inside j hj hj0).2
        omega
      · rw [eb k hk e2]; exact hI.apart j k hj hk hjk hj0 h1

/-- the struct is built -/
theorem OInv.bld {h ws : Nat} {p : Proto} {AA : Nat → Option Addr} {cc : Nat → Nat} {w0 : World} {E X C : Nat → Nat} {l : Array Bool} {a : Act} {w : World} (hI : OInv h ws p AA cc w0 E X C l a w) (hl : l.size = 32) (hd : ∀ i, i < 5 → l.getD (6 * i + 5) false = true) :
    OInv h ws p AA cc w0 E X C (l.setIfInBounds 30 true) (a.put (some 33) (oVal h AA cc E X C 30)) w := by
  have hz := hI.size
  have e5 : ∀ i, i < 5 → (l.setIfInBounds 30 true).getD (6 * i + 5) false = l.getD (6 * i + 5) false := fun i hi => by rw [getD_set, if_neg (by omega)]
  have e0 : ∀ i, i < 5 → (l.setIfInBounds 30 true).getD (6 * i) false = l.getD (6 * i) false := fun i hi => by rw [getD_set, if_neg (by omega)]
  have e31 : (l.setIfInBounds 30 true).getD 31 false = l.getD 31 false := by rw [getD_set, if_neg (by omega)]
  have e30 : (l.setIfInBounds 30 true).getD 30 false = true := by rw [getD_set, if_pos ⟨rfl, by omega⟩]
  have eb : ∀ i, i < 5 → oBlk (l.setIfInBounds 30 true) E X i = oBlk l E X i := fun i hi => by rw [oBlk, oBlk, e5 i hi]
  refine ⟨?_, hI.dfr, ?_, ?_, ?_, hI.below, hI.room, by rw [e31]; exact hI.box, by rw [e31]; exact hI.made, fun i hi => by rw [e0 i hi, e5 i hi]; exact hI.empty i hi, fun i hi => by rw [e5 i hi]; exact hI.full i hi, fun i hi => by rw [e0 i hi, e5 i hi]; exact hI.order i hi, fun _ i hi => by rw [e5 i hi]; exact hd i hi, fun h => e30, fun i hi => by rw [e0 i hi, eb i hi]; exact hI.inside i hi, fun i j hi hj hij => by rw [e0 i hi, e0 j hj, eb i hi, eb j hj]; exact hI.apart i j hi hj hij⟩
  · simp [Act.put, hz]
  · rw [getD_put _ _ _ _ (by omega), if_neg (by omega)]; exact hI.t0
  · rw [getD_put _ _ _ _ (by omega), if_neg (by omega)]; exact hI.t2
  · intro q hq hlq
    rw [getD_put _ _ _ _ (by omega)]
    by_cases e : 30 = q
    · subst e; rw [if_pos rfl]
    · rw [if_neg (by omega)]
      rw [getD_set, if_neg (by omega)] at hlq
      exact hI.slot q hq hlq

theorem set5 {w : World} {g : Nat} {x0 x1 x2 x3 x4 : Value} {t : TypeId} {fr : Nat × Nat} (h : w.heap[g]? = some (.cells #[x0, x1, x2, x3, x4] t fr)) (u0 u1 u2 u3 u4 : Value) : (((((w.setCell ⟨g, 0, none⟩ u0).setCell ⟨g, 1, none⟩ u1).setCell ⟨g, 2, none⟩ u2).setCell ⟨g, 3, none⟩ u3).setCell ⟨g, 4, none⟩ u4).heap[g]? = some (.cells #[u0, u1, u2, u3, u4] t fr) := by
  have h0 := Joins.block_setCell (i := 0) h u0
  have h1 := Joins.block_setCell (i := 1) h0 u1
  have h2 := Joins.block_setCell (i := 2) h1 u2
  have h3 := Joins.block_setCell (i := 3) h2 u3
  exact Joins.block_setCell (i := 4) h3 u4

/-- the struct is stored -/
theorem OInv.sto {h ws : Nat} {p : Proto} {AA : Nat → Option Addr} {cc : Nat → Nat} {w0 : World} {E X C : Nat → Nat} {l : Array Bool} {a : Act} {w : World} (hI : OInv h ws p AA cc w0 E X C l a w) (hl : l.size = 32) (hn : l.getD 31 true = false) (h30 : l.getD 30 false = true) :
    OInv h ws p AA cc w0 E X C (l.setIfInBounds 31 true) a (((((w.setCell ⟨ws, 0, none⟩ (.slice (some ⟨X 0, 0, none⟩) 4 (C 0))).setCell ⟨ws, 1, none⟩ (.slice (some ⟨X 1, 0, none⟩) 4 (C 1))).setCell ⟨ws, 2, none⟩ (.slice (some ⟨X 2, 0, none⟩) 4 (C 2))).setCell ⟨ws, 3, none⟩ (.slice (some ⟨X 3, 0, none⟩) 4 (C 3))).setCell ⟨ws, 4, none⟩ (.slice (some ⟨X 4, 0, none⟩) 4 (C 4))) := by
  have hz := hI.size
  have hn31 : l.getD 31 false = false := by
    have hb : 31 < l.size := by omega
    simpa [Array.getD, hb] using hn
  have e5 : ∀ i, i < 5 → (l.setIfInBounds 31 true).getD (6 * i + 5) false = l.getD (6 * i + 5) false := fun i hi => by rw [getD_set, if_neg (by omega)]
  have e0 : ∀ i, i < 5 → (l.setIfInBounds 31 true).getD (6 * i) false = l.getD (6 * i) false := fun i hi => by rw [getD_set, if_neg (by omega)]
  have e31 : (l.setIfInBounds 31 true).getD 31 false = true := by rw [getD_set, if_pos ⟨rfl, by omega⟩]
  have e30 : (l.setIfInBounds 31 true).getD 30 false = true := by rw [getD_set, if_neg (by omega)]; exact h30
  have eb : ∀ i, i < 5 → oBlk (l.setIfInBounds 31 true) E X i = oBlk l E X i := fun i hi => by rw [oBlk, oBlk, e5 i hi]
  have hbk : ∀ k, k ≠ ws → (((((w.setCell ⟨ws, 0, none⟩ (.slice (some ⟨X 0, 0, none⟩) 4 (C 0))).setCell ⟨ws, 1, none⟩ (.slice (some ⟨X 1, 0, none⟩) 4 (C 1))).setCell ⟨ws, 2, none⟩ (.slice (some ⟨X 2, 0, none⟩) 4 (C 2))).setCell ⟨ws, 3, none⟩ (.slice (some ⟨X 3, 0, none⟩) 4 (C 3))).setCell ⟨ws, 4, none⟩ (.slice (some ⟨X 4, 0, none⟩) 4 (C 4))).heap[k]? = w.heap[k]? := fun k hk => by
    rw [Below.heap_setCell _ _ _ _ hk, Below.heap_setCell _ _ _ _ hk, Below.heap_setCell _ _ _ _ hk, Below.heap_setCell _ _ _ _ hk, Below.heap_setCell _ _ _ _ hk]
  refine ⟨hz, hI.dfr, hI.t0, hI.t2, ?_, ?_, by simpa using hI.room, (fun h => by rw [e31] at h; cases h), (fun _ => set5 (hI.box hn31) _ _ _ _ _), ?_, ?_, fun i hi => by rw [e0 i hi, e5 i hi]; exact hI.order i hi, fun _ i hi => by rw [e5 i hi]; exact hI.last h30 i hi, fun h => e30, fun i hi => by rw [e0 i hi, eb i hi]; simpa using hI.inside i hi, fun i j hi hj hij => by rw [e0 i hi, e0 j hj, eb i hi, eb j hj]; exact hI.apart i j hi hj hij⟩
  · intro q hq hlq
    rw [getD_set, if_neg (by omega)] at hlq
    exact hI.slot q hq hlq
  · have hb : Below ws w w := Below.refl _ _
    exact hI.below.trans (((((hb.setCell (p := ⟨ws, 0, none⟩) (by simp) _).setCell (p := ⟨ws, 1, none⟩) (by simp) _).setCell (p := ⟨ws, 2, none⟩) (by simp) _).setCell (p := ⟨ws, 3, none⟩) (by simp) _).setCell (p := ⟨ws, 4, none⟩) (by simp) _)
  · intro i hi _ h5
    rw [e5 i hi, hI.last h30 i hi] at h5; cases h5
  · intro i hi _
    have h5 := hI.last h30 i hi
    have hin := hI.inside i hi (hI.order i hi h5)
    rw [oBlk, h5] at hin
    exact Kd.R_move (hI.full i hi h5) (fun k hk => hbk k (by subst hk; simp at hin; omega))
end Go.Proofs.Ytfeabjiccnnpcaa.Ca
