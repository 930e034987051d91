import Derived.Test.YtfeabjiccnnpcaaSo
set_option linter.unusedVariables false
set_option linter.unusedSimpArgs false
namespace Go.Proofs.Ytfeabjiccnnpcaa.Ca
open Go.RowKit Go.Proofs.YtfeabjiccnnpcaaW.PrintWords Go.Proofs.YtfeabjiccnnpcaaW.PrintLast Go.Proofs.Ytfeabjiccnnpcaa.Ba Go.Proofs.Ytfeabjiccnnpcaa.Sa

theorem wf_u8 {z : Int} (h : (Lit.int .u8 z).wf = true) : 0 ≤ z ∧ z ≤ 255 := by
  simp [Lit.wf, IntKind.min, IntKind.max] at h; first | omega | (simp [IntKind.bits, IntKind.signed] at h; omega)
theorem fnSeen_row (A : Option Addr) (c : Nat) (us : List Int) (B : Option Addr) (d : Nat) (bs : List Int) (w : World) (hA : Kd.C (Kd.int .u8) w A us.length us) (_ : us.length ≤ c) (qA : ∀ z ∈ us, (Lit.int .u8 z).wf = true) (hB : Kd.C (Kd.int .u8) w B bs.length bs) (_ : bs.length ≤ d) (qB : ∀ z ∈ bs, (Lit.int .u8 z).wf = true) :
    Calls Try.prog 7 #[.slice A us.length c, .slice B bs.length d] w fun e w' => e = .returned (.bool true) ∧ Below w.heap.size w w' :=
  fnSeen A B us.length bs.length c d us bs w ⟨hA, rfl, fun z hz => wf_u8 (qA z hz)⟩ ⟨hB, rfl, fun z hz => wf_u8 (qB z hz)⟩
end Go.Proofs.Ytfeabjiccnnpcaa.Ca
