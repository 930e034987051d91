import Derived.Test.YtfeabjiccnnpcaaSi
set_option linter.unusedVariables false
set_option linter.unusedSimpArgs false
namespace Go.Proofs.Ytfeabjiccnnpcaa.Ca
open Go.RowKit Go.Proofs.YtfeabjiccnnpcaaW.PrintWords Go.Proofs.YtfeabjiccnnpcaaW.PrintLast Go.Proofs.Ytfeabjiccnnpcaa.Ba

theorem R_putRule {w : World} {base g c n : Nat} {xs : List Rule} (h : kRule.R 145 w base (fun k => k = g) (.slice (some ⟨g, 0, none⟩) n c) xs) (i : Nat) (hi : i < n) (r : Rule) :
    kRule.R 145 (((w.setCell ⟨g, i * 3, none⟩ (.int .i64 r.next)).setCell ⟨g, i * 3 + 1, none⟩ (.int .i64 r.shared)).setCell ⟨g, i * 3 + 2, none⟩ (.bool r.back)) base (fun k => k = g) (.slice (some ⟨g, 0, none⟩) n c) (xs.set i r) := by
  obtain ⟨c0, hcl, _, hcc, _⟩ := Kd.R_elem h Rule.z (i : Int) (by omega) (by omega)
  have h3 : kRule.sz = 3 := rfl
  have hM : kRule.M w base (fun _ => False) r (c0.take 0 ++ [.int .i64 r.next, .int .i64 r.shared, .bool r.back] ++ c0.drop (0 + 3)) := by
    rw [List.drop_of_length_le (by rw [hcl, h3]; omega)]
    exact kRule_mkM _ _ _ r
  have := (Kd.R_seg h (i : Int) (by omega) (by omega) (seg := [.int .i64 r.next, .int .i64 r.shared, .bool r.back]) (j := 0) (x' := r) (okp := fun _ => False) (c := c0) hcl hcc (by rw [h3]; exact Nat.le_refl 3) hM (fun _ hk => hk.elim)).1
  exact this
end Go.Proofs.Ytfeabjiccnnpcaa.Ca
