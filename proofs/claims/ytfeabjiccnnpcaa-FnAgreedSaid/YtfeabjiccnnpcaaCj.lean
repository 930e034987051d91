import Derived.Test.YtfeabjiccnnpcaaCi
import Derived.WalkSpells
set_option linter.unusedVariables false
set_option linter.unusedSimpArgs false
namespace Go.Proofs.Ytfeabjiccnnpcaa.Ca
open Go.RowKit Go.Proofs.YtfeabjiccnnpcaaW.PrintWords Go.Proofs.YtfeabjiccnnpcaaW.PrintLast Go.Proofs.Ytfeabjiccnnpcaa.Ba

theorem R_lit0 {α : Type} (d : Kd α) (e B : Nat) (W : World) (hB : B ≤ W.heap.size) (ok : Nat → Prop) (hok : ok W.heap.size) : d.R e (W.alloc (.cells #[] e)) B ok (.slice (some ⟨W.heap.size, 0, none⟩) 0 0) [] := by
  have h := World.ownsRow_lit (base := B) (e := e) (size := d.sz) W #[] 0 hB (by simp [maxLen]) (by simp)
  exact ⟨fun k hk => by have : W.heap.size = k := by simpa [Value.ownBlock] using hk
                        exact this ▸ hok, [], by simpa using h, by simp [Reps]⟩

set_option maxHeartbeats 1000000 in
set_option maxRecDepth 100000 in
theorem clone168 (A : Option Addr) (c : Nat) (n : Nat) (xs : List (Int)) (w : World) (hr : Kd.C (Kd.int .i64) w A n xs) (hl : n ≤ 1000000) :
    Calls Try.prog 168 #[.slice A n c] w fun e w' => ∃ v, e = .returned v ∧ Kd.R (Kd.int .i64) 2 w' w.heap.size (fun k => w.heap.size ≤ k) v xs ∧ Below w.heap.size w w' := by
  have HR := Lib.hid hr
  have hq : ∀ W : World, (binOp .eql 38 (.slice A n c) (.slice none 0 0)).run Try.prog W = .ok (.bool A.isNone) W := fun W => Lib.run_eql_slice_nil W 38 2 A n c 0 0 Try.underlying38
  cases A with
  | none =>
    have hx : xs = [] := by
      have h1 := hr.1
      rcases Nat.eq_zero_or_pos n with h0 | h0
      · exact List.eq_nil_of_length_eq_zero (by omega)
      · obtain ⟨ad, h, _⟩ := hr.2.2 h0; cases h
    have HX := Lib.hid hx
    clear hr hx
    simp only [Option.isNone_none] at hq
    go_enter Try.func168, Try.ntmps168
    go_wp2
    go_ret
    exact ⟨_, rfl, by rw [HX.out]; exact Kd.R_nil _ _ _ _ _, Below.refl _ _⟩
  | some ad =>
    clear hr
    simp only [Option.isNone_some] at hq
    go_enter Try.func168, Try.ntmps168
    go_wp2_with (at_builtin; refine Kd.R_append_row (w0 := w) (Value.int .i64) (0 : Int) w.heap.size rfl _ _ 38 2 (.int .i64 0) 8 rfl Try.underlying38 info2 rfl (by omega) _ [] xs (some ad) n c (fun k => w.heap.size ≤ k) rfl rfl (fun k hk => by simp at hk; omega) (R_lit0 _ 2 w.heap.size w (Nat.le_refl _) _ (Nat.le_refl _)) (Kd.C_below HR.out ((Below.refl _ _).alloc (Nat.le_refl _) _)) ((Below.refl _ _).alloc (Nat.le_refl _) _) (by simp) (by simp; omega) ?_; intro v1 w1 hR1 hB1 hG1 hat)
    go_wp2
    go_ret
    exact ⟨_, rfl, by have := hR1; simp only [List.nil_append] at this; exact this, hB1⟩


set_option maxHeartbeats 1000000 in
set_option maxRecDepth 100000 in
theorem clone169 (A : Option Addr) (c : Nat) (n : Nat) (xs : List (Bool)) (w : World) (hr : Kd.C Kd.bool w A n xs) (hl : n ≤ 1000000) :
    Calls Try.prog 169 #[.slice A n c] w fun e w' => ∃ v, e = .returned v ∧ Kd.R Kd.bool 4 w' w.heap.size (fun k => w.heap.size ≤ k) v xs ∧ Below w.heap.size w w' := by
  have HR := Lib.hid hr
  have hq : ∀ W : World, (binOp .eql 58 (.slice A n c) (.slice none 0 0)).run Try.prog W = .ok (.bool A.isNone) W := fun W => Lib.run_eql_slice_nil W 58 4 A n c 0 0 Try.underlying58
  cases A with
  | none =>
    have hx : xs = [] := by
      have h1 := hr.1
      rcases Nat.eq_zero_or_pos n with h0 | h0
      · exact List.eq_nil_of_length_eq_zero (by omega)
      · obtain ⟨ad, h, _⟩ := hr.2.2 h0; cases h
    have HX := Lib.hid hx
    clear hr hx
    simp only [Option.isNone_none] at hq
    go_enter Try.func169, Try.ntmps169
    go_wp2
    go_ret
    exact ⟨_, rfl, by rw [HX.out]; exact Kd.R_nil _ _ _ _ _, Below.refl _ _⟩
  | some ad =>
    clear hr
    simp only [Option.isNone_some] at hq
    go_enter Try.func169, Try.ntmps169
    go_wp2_with (at_builtin; refine Kd.R_append_row (w0 := w) Value.bool false w.heap.size rfl _ _ 58 4 (.bool false) 1 rfl Try.underlying58 info4 rfl (by omega) _ [] xs (some ad) n c (fun k => w.heap.size ≤ k) rfl rfl (fun k hk => by simp at hk; omega) (R_lit0 _ 4 w.heap.size w (Nat.le_refl _) _ (Nat.le_refl _)) (Kd.C_below HR.out ((Below.refl _ _).alloc (Nat.le_refl _) _)) ((Below.refl _ _).alloc (Nat.le_refl _) _) (by simp) (by simp; omega) ?_; intro v1 w1 hR1 hB1 hG1 hat)
    go_wp2
    go_ret
    exact ⟨_, rfl, by have := hR1; simp only [List.nil_append] at this; exact this, hB1⟩

theorem info72 : (Try.prog.info? 72).map (fun i => (i.zero, i.size, i.bytes)) = some (some (.agg #[.int .i64 0, .int .i64 0]), 2, 16) := by kernel_rfl

set_option maxHeartbeats 1000000 in
set_option maxRecDepth 100000 in
theorem clone154 (A : Option Addr) (c : Nat) (n : Nat) (xs : List (Op)) (w : World) (hr : Kd.C kOp w A n xs) (hl : n ≤ 1000000) :
    Calls Try.prog 154 #[.slice A n c] w fun e w' => ∃ v, e = .returned v ∧ Kd.R kOp 72 w' w.heap.size (fun k => w.heap.size ≤ k) v xs ∧ Below w.heap.size w w' := by
  have HR := Lib.hid hr
  have hq : ∀ W : World, (binOp .eql 52 (.slice A n c) (.slice none 0 0)).run Try.prog W = .ok (.bool A.isNone) W := fun W => Lib.run_eql_slice_nil W 52 72 A n c 0 0 Try.underlying52
  cases A with
  | none =>
    have hx : xs = [] := by
      have h1 := hr.1
      rcases Nat.eq_zero_or_pos n with h0 | h0
      · exact List.eq_nil_of_length_eq_zero (by omega)
      · obtain ⟨ad, h, _⟩ := hr.2.2 h0; cases h
    have HX := Lib.hid hx
    clear hr hx
    simp only [Option.isNone_none] at hq
    go_enter Try.func154, Try.ntmps154
    go_wp2
    go_ret
    exact ⟨_, rfl, by rw [HX.out]; exact Kd.R_nil _ _ _ _ _, Below.refl _ _⟩
  | some ad =>
    clear hr
    simp only [Option.isNone_some] at hq
    go_enter Try.func154, Try.ntmps154
    go_wp2_with (at_builtin; refine Kd.R_append_rows kOp (Rr := kOp.K (w.alloc (.cells #[] 72))) (w0 := w) w.heap.size rfl _ _ 52 72 (.agg #[.int .i64 0, .int .i64 0]) 16 rfl Try.underlying52 info72 rfl (by decide) (by omega) _ [] xs (some ad) n c (fun k => w.heap.size ≤ k) (fun _ => False) rfl rfl (R_lit0 _ 72 w.heap.size w (Nat.le_refl _) _ (Nat.le_refl _)) (Kd.C_below HR.out ((Below.refl _ _).alloc (Nat.le_refl _) _)) (fun x cs hk => by rw [kOp_open hk]; exact kOp_mkM _ _ _ x) (fun _ h => h.elim) (fun k hk => by simp at hk; omega) ((Below.refl _ _).alloc (Nat.le_refl _) _) (by simp) (by simp; omega) ?_; intro v1 w1 hR1 hB1 hG1 hat)
    go_wp2
    go_ret
    exact ⟨_, rfl, by have := hR1; simp only [List.nil_append] at this; exact this, hB1⟩

end Go.Proofs.Ytfeabjiccnnpcaa.Ca
