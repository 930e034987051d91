import Derived.Test.YtfeabjiccnnpcaaSd
import Derived.Test.YtfeabjiccnnpcaaCd
set_option linter.unusedVariables false
set_option linter.unusedSimpArgs false
namespace Go.Proofs.Ytfeabjiccnnpcaa.Ca
open Go.RowKit Go.Proofs.YtfeabjiccnnpcaaW.PrintWords Go.Proofs.YtfeabjiccnnpcaaW.PrintLast Go.Proofs.Ytfeabjiccnnpcaa.Ba

theorem any_hasI (ys : List Int) (k : Int) : (ys.any fun x => k == x) = hasI ys k := by
  induction ys with
  | nil => rfl
  | cons y r ih =>
    rw [List.any_cons, ih]
    show (k == y || hasI r k) = (y :: r).contains k
    rw [List.contains_cons]; rfl
set_option maxRecDepth 100000 in
theorem ix127 (x0 x1 x2 x3 : Int) (k : Nat) (hk : k < 4) (W : World) : (Instr.index 127 (.agg #[.int .i64 x0, .int .i64 x1, .int .i64 x2, .int .i64 x3]) (.int .i64 (k : Int))).run Try.prog W = .ok (.int .i64 ([x0, x1, x2, x3].getD k 0)) W := by
  have hu : Try.prog.underlying 127 = some (.array 4 2) := by kernel_rfl
  have hi : (Try.prog.info? 2).map (fun i => (i.size)) = some 1 := by kernel_rfl
  obtain ⟨inf, hinf, h1⟩ := Option.map_eq_some_iff.1 hi
  match k, hk with
  | 0, _ => simp [Instr.index, run_underlying hu, asIntOf, go_sem, sizeOf, typeInfo, hinf, h1, part, Result.andThen]
  | 1, _ => simp [Instr.index, run_underlying hu, asIntOf, go_sem, sizeOf, typeInfo, hinf, h1, part, Result.andThen]
  | 2, _ => simp [Instr.index, run_underlying hu, asIntOf, go_sem, sizeOf, typeInfo, hinf, h1, part, Result.andThen]
  | 3, _ => simp [Instr.index, run_underlying hu, asIntOf, go_sem, sizeOf, typeInfo, hinf, h1, part, Result.andThen]

set_option maxHeartbeats 4000000 in
set_option maxRecDepth 100000 in
theorem rules86 (x0 x1 x2 x3 : Int) (B : Option Addr) (d : Nat) (ys : List Int) (w : World) (hB : Kd.C (Kd.int .i64) w B ys.length ys) :
    Calls Try.prog 86 #[.agg #[.int .i64 x0, .int .i64 x1, .int .i64 x2, .int .i64 x3], .slice B ys.length d] w fun e w' => ∃ A a, e = .returned (.slice A 4 a) ∧ Kd.R kRule 145 w' w.heap.size (fun k => w.heap.size ≤ k) (.slice A 4 a) (rules [x0, x1, x2, x3] ys) ∧ Below w.heap.size w w' := by
  have HB := Lib.hid hB
  clear hB
  go_enter Try.func86, Try.ntmps86
  go_wp2
  go_loopw [5, 10] (fun v i wr => ∃ k : Nat, k ≤ 4 ∧ i = .int .i64 k ∧ Hid (Kd.R kRule 145 wr w.heap.size (fun k => w.heap.size ≤ k) v ((rules [x0, x1, x2, x3] ys).take k)) ∧ Hid (Below w.heap.size w wr)) (fun _ i _ => 4 - (intOf i).toNat)
  case atStart =>
    refine ⟨0, Nat.zero_le _, rfl, Lib.hid ?_, Lib.hid (((Below.refl _ _).alloc (Nat.le_refl _) _).alloc (by simp) _)⟩
    have h := R_lit0 kRule 145 w.heap.size (w.alloc (.cells #[.int .i64 x0, .int .i64 x1, .int .i64 x2, .int .i64 x3] 127)) (by simp) (fun k => w.heap.size ≤ k) (by simp)
    simp only [World.size_alloc] at h
    exact h
  case round => 
    obtain ⟨k, hk, rfl, HR, HBW⟩ := hrel
    by_cases hlt : k < 4
    · have b1 : decide ((k : Int) < 4) = true := decide_eq_true (by omega)
      have hix := ix127 x0 x1 x2 x3 k hlt
      obtain ⟨z, hz⟩ : ∃ z, [x0, x1, x2, x3].getD k 0 = z := ⟨_, rfl⟩
      rw [hz] at hix
      have hra : ruleAt [x0, x1, x2, x3] ys k = ⟨z, 1, hasI ys k⟩ := by rw [ruleAt, ← hz]
      have HRA := Lib.hid hra
      obtain ⟨bk, hbk⟩ : ∃ bk, hasI ys k = bk := ⟨_, rfl⟩
      rw [hbk] at HRA
      have HBK := Lib.hid hbk
      clear hz hra hbk
      go_wp2_with fail
      refine (contains145 B d k ys _ (Kd.C_below HB.out HBW.out)).mono ?_
      rintro e w3 ⟨rfl, rfl⟩
      rw [any_hasI, HBK.out]
      go_wp2_with (at_builtin; refine Kd.R_append kRule (w0 := w) w.heap.size rfl (.tmp 14) (.tmp 20) 48 145 (.agg #[.int .i64 0, .int .i64 0, .bool false]) 24 rfl Try.underlying48 info145 rfl (by decide) (by omega) u5 ((rules [x0, x1, x2, x3] ys).take k) (⟨z, 1, bk⟩ : Rule) [.int .i64 z, .int .i64 1, .bool bk] (fun k => w.heap.size ≤ k) (fun _ => False) rfl (by first | (go_simp; done) | (go_simp; rfl)) (kRule_mkM _ _ _ ⟨z, 1, bk⟩) (fun _ hk => hk.elim) (fun q hq => by have := HBW.out.size; omega) HR.out HBW.out HBW.out.size (by simp; omega) ?_; intro v5 w5 hR5 hB5 hG5 hat5)
      go_roundw
      case rel => exact ⟨k + 1, by omega, by go_num, Lib.hid (by rw [rules_take _ ys k hlt, HRA.out]; exact hR5), Lib.hid hB5⟩
      case measure => simp [intOf]; omega
    · have b1 : decide ((k : Int) < 4) = false := decide_eq_false (by omega)
      obtain rfl : k = 4 := by omega
      obtain ⟨A, a, rfl⟩ := Kd.R_slice HR.out
      go_wp2
      go_ret
      exact ⟨A, a, rfl, HR.out, HBW.out⟩
end Go.Proofs.Ytfeabjiccnnpcaa.Ca
