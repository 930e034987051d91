import Derived.Test.YtfeabjiccnnpcaaBa
import Derived.Maps.Own
import Derived.Maps.OwnSet
import Derived.Maps.Views
set_option linter.unusedVariables false
set_option linter.unusedSimpArgs false
namespace Go.Proofs.Ytfeabjiccnnpcaa.Mp
open Go.Maps Go.RowKit

/-- how any value reads: as itself -/
def idElem (v : Value) : Option (DataW Value × List MemPlace) := some (.held v, [])
/-- block b of w is a map of at most n entries; f says which value lies at a key -/
def MapV (w : World) (P : Program) (k : TypeId) (b n : Nat) (f : Lit → Option Value) : Prop :=
  ∃ D : DataW Value, w.ownsMap P k idElem b n D ∧ ∀ kl, WideAt.IsKeyLit kl → ∀ zd, D.atKey kl zd = (match f kl with | some v => .held v | none => zd)
open Classical in
noncomputable def upd (f : Lit → Option Value) (kl : Lit) (v : Value) : Lit → Option Value := fun q => if q = kl then some v else f q
theorem upd_same (f : Lit → Option Value) (kl : Lit) (v : Value) : upd f kl v kl = some v := by simp [upd]
theorem upd_ne (f : Lit → Option Value) {kl q : Lit} (v : Value) (h : q ≠ kl) : upd f kl v q = f q := by simp [upd, h]
section
variable {w w' : World} {P : Program} {k e t : TypeId} {b n : Nat} {f : Lit → Option Value}
theorem MapV.made (w : World) (P : Program) (k : TypeId) : MapV (w.alloc (.map #[] 0)) P k w.heap.size 0 (fun _ => none) :=
  ⟨.map [], World.ownsMap_made w P k _, fun kl _ zd => by simp [DataW.atKey]⟩
theorem MapV.kept {row : Option Nat} (h : MapV w P k b n f) (hg : w.grownBy w' row) (hne : some b ≠ row) : MapV w' P k b n f := by
  obtain ⟨D, h1, h2⟩ := h
  exact ⟨D, h1.kept hg hne, h2⟩
theorem MapV.lt (h : MapV w P k b n f) : b < w.heap.size := by
  obtain ⟨D, h1, h2⟩ := h
  exact h1.lt
theorem MapV.mono (h : MapV w P k b n f) {n' : Nat} (hn : n ≤ n') : MapV w P k b n' f := by
  obtain ⟨D, h1, h2⟩ := h
  exact ⟨D, h1.mono hn, h2⟩
theorem MapV.below (h : MapV w P k b n f) (hb : Below w.heap.size w w') : MapV w' P k b n f :=
  h.kept (row := none) ⟨hb.os, hb.tape, hb.output, hb.size, fun i hi _ => hb.block i hi⟩ (by simp)
theorem MapV.move (h : MapV w P k b n f) (hb : w'.heap[b]? = w.heap[b]?) : MapV w' P k b n f := by
  obtain ⟨D, ⟨es, clock, hh, F, hs, hD⟩, h2⟩ := h
  exact ⟨D, ⟨es, clock, hb.trans hh, F, hs, hD⟩, h2⟩
theorem MapV.look (h : MapV w P k b n f) (K : Keyed P k) (ht : P.underlying t = some (.map k e)) {z : Value} (hz : (zeroValue e).run P w = .ok z w) {key : Value} {kl : Lit} (hkey : keyOf P k key = some kl) :
    (Instr.lookup t (.map (some b)) key false).run P w = .ok ((f kl).getD z) w := by
  obtain ⟨D, h1, h2⟩ := h
  obtain ⟨v, ps, hr, hv⟩ := h1.lookup K ht hz (R := idElem) (zd := .held z) (zp := []) rfl hkey
  rw [hr, h2 kl (K.key hkey)] at *
  simp only [idElem, Option.some.injEq, Prod.mk.injEq] at hv
  cases hf : f kl with
  | none => rw [hf] at hv; simp at hv; simp [hv.1]
  | some x => rw [hf] at hv; simp at hv; simp [hv.1]
theorem MapV.look_ok (h : MapV w P k b n f) (K : Keyed P k) (ht : P.underlying t = some (.map k e)) {z : Value} (hz : (zeroValue e).run P w = .ok z w) {key : Value} {kl : Lit} (hkey : keyOf P k key = some kl) :
    (Instr.lookup t (.map (some b)) key true).run P w = .ok (.tuple #[(f kl).getD z, .bool (f kl).isSome]) w := by
  obtain ⟨D, h1, h2⟩ := h
  obtain ⟨v, ps, hr, hv⟩ := h1.look_ok K ht hz (R := idElem) (zd := .held z) (zp := []) rfl hkey
  have hkk := K.key hkey
  have hh : Maps.has D kl = (f kl).isSome := by
    cases hf : f kl with
    | none => exact has_false_of_atKey (fun zd => by rw [h2 kl hkk, hf])
    | some x => exact has_true_of_atKey (y := .held x) (fun zd => by rw [h2 kl hkk, hf])
  rw [hr, hh]
  rw [h2 kl hkk] at hv
  simp only [idElem, Option.some.injEq, Prod.mk.injEq] at hv
  cases hf : f kl with
  | none => rw [hf] at hv; simp at hv; simp [hv.1]
  | some x => rw [hf] at hv; simp at hv; simp [hv.1]
theorem MapV.update (h : MapV w P k b n f) (K : Keyed P k) (ht : P.underlying t = some (.map k e)) (hn : n < maxLen) {key : Value} {kl : Lit} (hkey : keyOf P k key = some kl) (val : Value) :
    ∃ w', (Instr.mapUpdate t (.map (some b)) key val).run P w = .ok () w' ∧ MapV w' P k b (n + 1) (upd f kl val) ∧ w.grownBy w' (some b) := by
  obtain ⟨D, h1, h2⟩ := h
  obtain ⟨w', hr, ho, hg⟩ := h1.update K ht hn hkey (val := val) (R := idElem) (d := .held val) (ps := []) rfl
  refine ⟨w', hr, ⟨_, ho, fun q hq zd => ?_⟩, hg⟩
  by_cases hqk : q = kl
  · subst hqk
    rw [upd_same]
    exact atKey_put_same h1.isMap hq _ _
  · rw [upd_ne f val hqk, atKey_put_other hqk]
    exact h2 q hq zd
end
end Go.Proofs.Ytfeabjiccnnpcaa.Mp
