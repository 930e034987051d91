import Derived.Test.YtfeabjiccnnpcaaSk
set_option linter.unusedVariables false
set_option linter.unusedSimpArgs false
namespace Go.Proofs.Ytfeabjiccnnpcaa.Ca
open Go.RowKit Go.Proofs.YtfeabjiccnnpcaaW.PrintWords Go.Proofs.YtfeabjiccnnpcaaW.PrintLast Go.Proofs.Ytfeabjiccnnpcaa.Ba Go.Proofs.Ytfeabjiccnnpcaa.Sa

def longB (n m : Nat) : Bool := decide (48 < (n : Int)) || decide (48 < (m : Int))
set_option maxHeartbeats 400000 in
theorem r8Long (A B : Option Addr) (n m c d : Nat) (w : World) (hn : n ≤ 9223372036854775807) (hm : m ≤ 9223372036854775807) : Calls Try.prog 33 #[.slice A n c, .slice B m d] w fun e w' => e = .returned (.bool (longB n m)) ∧ w' = w := by
  by_cases h1 : 48 < (n : Int)
  · have b1 : decide (48 < (n : Int)) = true := decide_eq_true h1
    have hf : Hid (longB n m = true) := Lib.hid (by rw [longB, b1]; rfl)
    go_enter Try.func33, Try.ntmps33
    go_wp2
    go_ret
    exact ⟨ret_bool hf.out.symm, rfl⟩
  · have b1 : decide (48 < (n : Int)) = false := decide_eq_false h1
    have hf : Hid (longB n m = decide (48 < (m : Int))) := Lib.hid (by rw [longB, b1]; rfl)
    go_enter Try.func33, Try.ntmps33
    go_wp2
    go_ret
    exact ⟨ret_bool hf.out.symm, rfl⟩
end Go.Proofs.Ytfeabjiccnnpcaa.Ca
