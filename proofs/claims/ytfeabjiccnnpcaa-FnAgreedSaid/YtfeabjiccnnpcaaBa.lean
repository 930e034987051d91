import Derived.Test.YtfeabjiccnnpcaaProg
import Derived.Test.YtfeabjiccnnpcaaWWords
import Derived.Lib.Strings
import Derived.Lib.Slices
import Derived.Lib.Walk
import Derived.Lib.AppendStr
import Derived.WalkKit
import Derived.WalkSpells
import Derived.Deep.LoopGhost
import Derived.Deep.QuietTactic
import Derived.Deep.DeepFit
import Derived.BigQuiet
import Derived.Lib.Hide
import Derived.KernelRfl
set_option linter.unusedVariables false
set_option linter.unusedSimpArgs false
namespace Go.Proofs.Ytfeabjiccnnpcaa.Ba
open Go.RowKit Go.Proofs.YtfeabjiccnnpcaaW.PrintWords

theorem cell_old {w w1 : World} (h : Below w.heap.size w w1) {a : Addr} {v : Value} (hc : w.cell? a = some v) : w1.cell? a = some v := (h.cell (World.block_lt_of_cell? w a hc)).trans hc
theorem below_tr {w w1 w2 : World} (h : Below w.heap.size w w1) (k : Below w1.heap.size w1 w2) : Below w.heap.size w w2 := below_then h h.size k

section
variable {w : World} {A : Option Addr} {n : Nat}
theorem C_str {xs : List ByteArray} (h : Kd.C Kd.string w A n xs) (k : Nat) (hk : k < xs.length) (hn : n = xs.length) : ∃ ad, A = some ad ∧ w.cell? (ad.add k) = some (.string xs[k]) := by
  obtain ⟨ad, e, hc⟩ := Kd.at_string h k (by omega) (by omega)
  exact ⟨ad, e, by simpa [rdOf, hk] using hc⟩
theorem C_int {q : IntKind} {xs : List Int} (h : Kd.C (Kd.int q) w A n xs) (k : Nat) (hk : k < xs.length) (hn : n = xs.length) : ∃ ad, A = some ad ∧ w.cell? (ad.add k) = some (.int q xs[k]) := by
  obtain ⟨ad, e, hc⟩ := Kd.at_int h k (by omega) (by omega)
  exact ⟨ad, e, by simpa [rd, hk] using hc⟩
theorem C_bool {xs : List Bool} (h : Kd.C Kd.bool w A n xs) (k : Nat) (hk : k < xs.length) (hn : n = xs.length) : ∃ ad, A = some ad ∧ w.cell? (ad.add k) = some (.bool xs[k]) := by
  obtain ⟨ad, c, e, _, hK, hc⟩ := Kd.C_get h false (k : Int) (by omega) (by omega)
  have hK' : c = [.bool (xs.getD (k : Int).toNat false)] := hK
  subst hK'
  have := hc 0 _ rfl
  refine ⟨ad, e, ?_⟩
  have h2 : (Kd.bool.sz : Nat) = 1 := rfl
  simpa [h2, hk] using this
/-- a slice of slices -/
theorem C_sl {α : Type} {d : Kd α} {t : Nat} {xs : List (List α)} (h : Kd.C (Kd.slice t d) w A n xs) (k : Nat) (hk : k < xs.length) (hn : n = xs.length) : ∃ ad A0 c0, A = some ad ∧ w.cell? (ad.add k) = some (.slice A0 xs[k].length c0) ∧ xs[k].length ≤ c0 ∧ d.C w A0 xs[k].length xs[k] := by
  obtain ⟨ad, c, e, _, hK, hc⟩ := Kd.C_get h ([] : List α) (k : Int) (by omega) (by omega)
  obtain ⟨A0, c0, rfl, l0, g0⟩ := hK
  have e1 : xs.getD (k : Int).toNat [] = xs[k] := by simp [hk]
  rw [e1] at l0 g0 hc
  refine ⟨ad, A0, c0, e, ?_, l0, g0⟩
  have := hc 0 _ rfl
  have h2 : ((Kd.slice t d).sz : Nat) = 1 := rfl
  simpa [h2] using this
end
theorem C_max {α : Type} {d : Kd α} {w : World} {A : Option Addr} {n : Nat} {xs : List α} (h : d.C w A n xs) : n ≤ 9223372036854775807 := h.2.1
theorem ret_str {a b : ByteArray} (h : a = b) : Ending.returned (.string a) = .returned (.string b) := by rw [h]
theorem ret_bool {a b : Bool} (h : a = b) : Ending.returned (.bool a) = .returned (.bool b) := by rw [h]
theorem ret_int {k : IntKind} {a b : Int} (h : a = b) : Ending.returned (.int k a) = .returned (.int k b) := by rw [h]
theorem drop_at {α : Type} (xs : List α) (k : Nat) (hk : k < xs.length) : xs.drop k = xs[k] :: xs.drop (k + 1) := List.drop_eq_getElem_cons hk
end Go.Proofs.Ytfeabjiccnnpcaa.Ba
