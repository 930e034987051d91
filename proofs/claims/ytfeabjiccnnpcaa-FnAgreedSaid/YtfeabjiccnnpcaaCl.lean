import Derived.Test.YtfeabjiccnnpcaaCk
set_option linter.unusedVariables false
set_option linter.unusedSimpArgs false
namespace Go.Proofs.Ytfeabjiccnnpcaa.Ca
open Go.RowKit Go.Proofs.YtfeabjiccnnpcaaW.PrintWords Go.Proofs.YtfeabjiccnnpcaaW.PrintLast Go.Proofs.Ytfeabjiccnnpcaa.Ba

set_option maxHeartbeats 400000 in
theorem length79 (A : Option Addr) (n c : Nat) (w : World) (hn : n ≤ 9223372036854775807) : Calls Try.prog 79 #[.slice A n c] w fun e w' => e = .returned (.int .i64 n) ∧ w' = w := by
  go_enter Try.func79, Try.ntmps79
  go_wp2
  go_ret
  exact ⟨rfl, rfl⟩

theorem inR_13 {n : Nat} (h0 : 0 < n) (hn : n ≤ 3) : inR (n : Int) 1 3 = true := by simp [inR]; omega
theorem isCp_ok {c : Int} (h : 0 ≤ c ∧ c ≤ 3) : isCp c = true := by simp [isCp, inR]; omega

set_option maxHeartbeats 1000000 in
set_option maxRecDepth 100000 in
theorem ValidSystem (A B : Option Addr) (n c d : Nat) (x : Sys) (w : World) (h0 : 0 < n) (hn : n ≤ 3) (hx : x.Ok n) (hA : Kd.C (Kd.int .i64) w A n x.cs) (hB : Kd.C Kd.bool w B n x.fs) :
    Calls Try.prog 42 #[.agg #[.slice A n c, .slice B n d, .bool x.m]] w fun e w' => e = .returned (.bool true) ∧ Below w.heap.size w w' := by
  have HA := Lib.hid hA
  have HB := Lib.hid hB
  have BA : ∀ o, Below w.heap.size w (w.alloc o) := fun o => (Below.refl _ _).alloc (Nat.le_refl _) o
  have HX := Lib.hid hx
  have HLA := Lib.hid hx.lc
  have HLB := Lib.hid hx.lf
  clear hA hB hx
  have b1 : ((n : Int) != (n : Int)) = false := by simp
  go_enter Try.func42, Try.ntmps42
  go_wp2_with fail
  refine (length79 A n c _ (by omega)).mono ?_
  rintro e w' ⟨rfl, rfl⟩
  go_wp2_with fail
  refine (inRange _ _ _ _).mono ?_
  rintro e w' ⟨rfl, rfl⟩
  rw [inR_13 h0 hn]
  go_wp2_with fail
  go_loop [2, 22] (fun r i => ∃ (k : Nat), k ≤ n ∧ i = .int .i64 k ∧ r = .bool false) (fun _ i => n - (intOf i).toNat)
  case atStart => exact ⟨0, Nat.zero_le _, rfl, rfl⟩
  case round =>
    obtain ⟨k, hk, rfl, rfl⟩ := hrel
    by_cases hlt : k < n
    · obtain ⟨ad, rfl, hcell⟩ := C_int HA.out k (by rw [HLA.out]; exact hlt) HLA.out.symm
      obtain ⟨ad', rfl, hcell'⟩ := C_bool HB.out k (by rw [HLB.out]; exact hlt) HLB.out.symm
      have hc : x.c k = x.cs[k]'(by rw [HLA.out]; exact hlt) := by simp [Sys.c, HLA.out, hlt]
      have hf : x.f k = x.fs[k]'(by rw [HLB.out]; exact hlt) := by simp [Sys.f, HLB.out, hlt]
      have hbd := HX.out.bd k
      have hnf := HX.out.nf k
      rw [← hc] at hcell
      rw [← hf] at hcell'
      obtain ⟨cv, hcv⟩ : ∃ z, x.c k = z := ⟨_, rfl⟩
      obtain ⟨fv, hfv⟩ : ∃ z, x.f k = z := ⟨_, rfl⟩
      rw [hcv] at hcell hbd hnf
      rw [hfv] at hcell' hnf
      have hcell : ∀ o, (w.alloc o).cell? (ad.add k) = some (Value.int .i64 cv) := fun o => cell_old (BA o) hcell
      have hcell' : ∀ o, (w.alloc o).cell? (ad'.add k) = some (Value.bool fv) := fun o => cell_old (BA o) hcell'
      clear BA
      have HCP := Lib.hid (isCp_ok hbd)
      clear hc hf hcv hfv
      by_cases hz : cv = 0
      · have hfz := hnf hz
        subst hz hfz
        clear hnf
        go_wp2_with fail
        refine (isCopy _ _).mono ?_
        rintro e w' ⟨rfl, rfl⟩
        rw [HCP.out]
        go_wp2_with fail
        exact ⟨⟨k + 1, by omega, by go_num, rfl⟩, by simp [intOf]; omega⟩
      · have b2 : (cv == 0) = false := by rw [beq_eq_false_iff_ne]; exact hz
        clear hnf hz
        go_wp2_with fail
        refine (isCopy _ _).mono ?_
        rintro e w' ⟨rfl, rfl⟩
        rw [HCP.out]
        go_wp2_with fail
        exact ⟨⟨k + 1, by omega, by go_num, rfl⟩, by simp [intOf]; omega⟩
    · go_wp2_with fail
      go_ret
      exact ⟨rfl, (Below.refl _ _).alloc (Nat.le_refl _) _⟩
end Go.Proofs.Ytfeabjiccnnpcaa.Ca
