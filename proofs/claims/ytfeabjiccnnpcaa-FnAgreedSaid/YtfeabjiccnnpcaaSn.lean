import Derived.Test.YtfeabjiccnnpcaaSm
set_option linter.unusedVariables false
set_option linter.unusedSimpArgs false
namespace Go.Proofs.Ytfeabjiccnnpcaa.Ca
open Go.RowKit Go.Proofs.YtfeabjiccnnpcaaW.PrintWords Go.Proofs.YtfeabjiccnnpcaaW.PrintLast Go.Proofs.Ytfeabjiccnnpcaa.Ba Go.Proofs.Ytfeabjiccnnpcaa.Sa

set_option maxHeartbeats 1000000 in
set_option maxRecDepth 100000 in
theorem r8At (A : Option Addr) (n c : Nat) (bs : List Int) (k : Nat) (m : Int) (w : World) (hB : Bytes w A n bs) (h1 : 1 < m) (h2 : m ≤ 200) (hk : k ≤ 1000) :
    Calls Try.prog 34 #[.slice A n c, .int .i64 k, .int .i64 m] w fun e w' => ∃ r, e = .returned (.int .i64 r) ∧ (0 ≤ r ∧ r < m) ∧ w' = w := by
  obtain ⟨hC, hn, hq⟩ := hB
  have hmx := C_max hC
  have b0 : decide (m ≤ 1) = false := decide_eq_false (by omega)
  have b3 : (m == 0) = false := by rw [beq_eq_false_iff_ne]; omega
  have b4 : (m == -1) = false := by rw [beq_eq_false_iff_ne]; omega
  have HQ := Lib.hid hq
  clear hq
  subst hn
  by_cases hlt : k < bs.length
  · have b1 : decide ((bs.length : Int) ≤ (k : Int)) = false := decide_eq_false (by omega)
    obtain ⟨ad, rfl, hcell⟩ := C_int hC k hlt rfl
    have hr := HQ.out (bs[k]'hlt) (List.getElem_mem _)
    obtain ⟨r, hre⟩ : ∃ r, bs[k]'hlt = r := ⟨_, rfl⟩
    rw [hre] at hcell hr
    have r0 : 0 ≤ r := hr.1
    have r1 : r ≤ 255 := hr.2
    clear hre hr hC
    go_enter Try.func34, Try.ntmps34
    go_wp2
    go_ret
    have e1 : Int.tmod r m = r % m := Int.tmod_eq_emod_of_nonneg r0
    have e2 := Int.emod_nonneg r (show m ≠ 0 by omega)
    have e3 := Int.emod_lt_of_pos r (show 0 < m by omega)
    refine ⟨_, rfl, ?_, rfl⟩
    first | omega | (rw [e1]; omega) | (rw [wrap64, e1]; omega) | (rw [wrap64]; omega)
  · have b1 : decide ((bs.length : Int) ≤ (k : Int)) = true := decide_eq_true (by omega)
    clear hC
    go_enter Try.func34, Try.ntmps34
    go_wp2
    go_ret
    exact ⟨0, rfl, by omega, rfl⟩

set_option maxHeartbeats 1000000 in
set_option maxRecDepth 100000 in
theorem r8Same (A B : Option Addr) (c d n : Nat) (xs : List Int) (w : World) (hn : xs.length = n) (hA : Kd.C (Kd.int .i64) w A n xs) (hB : Kd.C (Kd.int .i64) w B n xs) :
    Calls Try.prog 47 #[.slice A n c, .slice B n d] w fun e w' => e = .returned (.bool true) ∧ Below w.heap.size w w' := by
  have hmx := C_max hA
  have HA := Lib.hid hA
  have HB := Lib.hid hB
  have HN := Lib.hid hn
  clear hA hB hn
  have b1 : ((n : Int) == (n : Int)) = true := by simp
  have b2 : ((n : Int) != (n : Int)) = false := by simp
  go_enter Try.func47, Try.ntmps47
  go_wp2
  go_loopw [5] (fun i wr => ∃ k : Nat, k ≤ n ∧ i = .int .i64 k ∧ Below w.heap.size w wr) (fun i _ => n - (intOf i).toNat)
  case atStart => exact ⟨0, Nat.zero_le _, rfl, Below.refl _ _⟩
  case round =>
    obtain ⟨k, hk, rfl, hb⟩ := hrel
    by_cases hlt : k < n
    · obtain ⟨ad, rfl, h1⟩ := C_int (Kd.C_below HA.out hb) k (by rw [HN.out]; exact hlt) HN.out.symm
      obtain ⟨ad', rfl, h2⟩ := C_int (Kd.C_below HB.out hb) k (by rw [HN.out]; exact hlt) HN.out.symm
      obtain ⟨z, hz⟩ : ∃ z, xs[k]'(by rw [HN.out]; exact hlt) = z := ⟨_, rfl⟩
      rw [hz] at h1 h2
      have b3 : (z != z) = false := by simp
      have b4 : (z == z) = true := by simp
      have Hb := Lib.hid hb
      have k0 : (0 : Int) ≤ (k : Int) := by omega
      have k1 : (k : Int) < (n : Int) := by omega
      clear hz hb
      go_wp2
      go_quiet (fail)
      go_wp2
      go_roundw
      case rel => exact ⟨k + 1, by omega, by go_num, pw_below_drewN Hb.out _⟩
      case measure => simp [intOf]; omega
    · go_wp2
      go_ret
      exact ⟨rfl, hb⟩

/-! what the law asks of a run -/
theorem runS_at (p : Proto) : ∀ (ops : List Op) (x : Sys) (k : Int), (runS p x k ops).2 = -1 ∨ k ≤ (runS p x k ops).2
  | [], x, k => .inl rfl
  | o :: r, x, k => by
    rw [runS]
    split
    · exact .inr (Int.le_refl _)
    · rcases runS_at p r (stepS p x o).1 (k + 1) with h | h
      · exact .inl h
      · exact .inr (by omega)
theorem busS_ok (p : Proto) : ∀ (ops : List Op) (x : Sys) (k m b : Int), 0 ≤ k → (busS p x m b ops).2.2 = ((runS p x k ops).2 == -1)
  | [], x, k, m, b, _ => by simp [busS, runS]
  | o :: r, x, k, m, b, hk => by
    rw [busS, runS]
    split
    · have : (k == -1) = false := by rw [beq_eq_false_iff_ne]; omega
      exact this.symm
    · exact busS_ok p r _ (k + 1) _ _ (by omega)
theorem busS_bd (p : Proto) (n : Nat) (hp : validP p = true) : ∀ (ops : List Op) (x : Sys) (m b : Int), x.Ok n → (∀ o ∈ ops, 0 ≤ o.cache ∧ o.cache < n) → 0 ≤ m → 0 ≤ b → 
    0 ≤ (busS p x m b ops).1 ∧ (busS p x m b ops).1 ≤ m + ops.length ∧ 0 ≤ (busS p x m b ops).2.1 ∧ (busS p x m b ops).2.1 ≤ b + ops.length * n
  | [], x, m, b, _, _, hm, hb => by simp [busS]; omega
  | o :: r, x, m, b, hx, ho, hm, hb => by
    rw [busS]
    have h0 := ho o List.mem_cons_self
    have hbk := stepS_back p x o n hx h0.1 h0.2
    have hl : ((o :: r).length : Int) = r.length + 1 := by simp
    have hmul : ((o :: r).length : Int) * n = r.length * n + n := by rw [hl, Int.add_mul]; omega
    have hnn : 0 ≤ (r.length : Int) * n := Int.mul_nonneg (by omega) (by omega)
    split
    · simp only []; rw [hl, Int.add_mul]; refine ⟨by omega, by omega, by omega, by omega⟩
    · have ih := busS_bd p n hp r (stepS p x o).1 (if (stepS p x o).2.2.1 = true then m + 1 else m) (b + (stepS p x o).2.2.2) (hx.step hp o h0.1 h0.2) (fun q hq => ho q (List.mem_cons_of_mem _ hq)) (by split <;> omega) (by omega)
      rw [hl, Int.add_mul]
      refine ⟨ih.1, ?_, ih.2.2.1, by omega⟩
      have := ih.2.1
      split at this <;> omega
theorem read_next {p : Proto} (hp : validP p = true) (h : Int) (h0 : 0 ≤ h) (h3 : h ≤ 3) : (rl p.rd h).next ≠ 0 ∧ (rl p.rd h).shared ≠ 0 := by
  have := ((validP_iff p).1 hp 0 (by omega)).2 h.toNat (by omega)
  rw [Int.toNat_of_nonneg h0] at this
  simp [okAt, Proto.tab] at this
  exact ⟨this.2.1, this.2.2⟩
/-- a read that is no flaw leaves a fresh copy -/
theorem read_fresh {p : Proto} {x : Sys} {o : Op} {n : Nat} (hp : validP p = true) (hx : x.Ok n) (h0 : 0 ≤ o.cache) (h1 : o.cache < n) (hk : o.kind = 0) (hf : (stepS p x o).2.1 = false) : (stepS p x o).1.f o.cache.toNat = true := by
  have hc : o.cache.toNat < n := by omega
  have hb := hx.bd o.cache.toNat
  have hn := read_next hp _ hb.1 hb.2
  have hz := read_next hp 0 (by omega) (by omega)
  have hs := hx.see (valid_tab hp 3 (by omega)) o.cache.toNat
  have lx := hx.lf
  have ls := hs.lf
  have e : p.tab 3 = p.sr := rfl
  rw [e] at hs ls
  simp only [stepS, hk] at hf ⊢
  rw [if_pos trivial] at hf ⊢
  by_cases hh : x.c o.cache.toNat = 0
  · rw [if_neg (by simpa using hh)] at hf ⊢
    split at hf
    · rename_i hany
      rw [if_pos hany]
      simp only [fin, Bool.or_eq_false_iff, Bool.not_eq_false'] at hf ⊢
      rw [Sys.f_become _ _ _ _ _ (by omega), if_pos rfl, hf.1]
      simp [hz.2]
    · rename_i hany
      rw [if_neg hany]
      simp only [fin, Bool.or_eq_false_iff, Bool.not_eq_false'] at hf ⊢
      rw [Sys.f_become _ _ _ _ _ (by omega), if_pos rfl, hf.1]
      simp [hz.1]
  · rw [if_pos hh] at hf ⊢
    simp only [fin, Bool.or_eq_false_iff, Bool.not_eq_false'] at hf ⊢
    rw [Sys.f_become _ _ _ _ _ (by omega), if_pos rfl, hf.1]
    simp [hn.1]
theorem clear_f (x : Sys) (j : Nat) : x.clear.f j = false := by
  simp only [Sys.clear, Sys.f, List.getD_eq_getElem?_getD, List.getElem?_map]
  cases x.fs[j]? <;> rfl
/-- a write leaves no other fresh copy -/
theorem write_fresh {p : Proto} {x : Sys} {o : Op} {n : Nat} (hp : validP p = true) (hx : x.Ok n) (h0 : 0 ≤ o.cache) (h1 : o.cache < n) (hk : o.kind = 1) (j : Nat) (hj : j ≠ o.cache.toNat) : (stepS p x o).1.f j = false := by
  have hs := hx.see (valid_tab hp 4 (by omega)) o.cache.toNat
  have lx := hx.clear.lf
  have ls := hs.clear.lf
  have e : p.tab 4 = p.sw := rfl
  rw [e] at hs ls
  have key : ∀ (y : Sys) (h : Int) (m : Bool), y.clear.fs.length = n → ((y.clear.become o.cache.toNat h true).withM m).f j = false := fun y h m hl => by
    have : ((y.clear.become o.cache.toNat h true).withM m).f j = (y.clear.become o.cache.toNat h true).f j := rfl
    rw [this, Sys.f_become _ _ _ _ _ (by omega), if_neg (Ne.symm hj)]
    exact clear_f y j
  simp only [stepS, hk]
  rw [if_neg (by decide), if_pos trivial]
  repeat' split
  all_goals first | exact key _ _ _ ls | exact key _ _ _ lx
end Go.Proofs.Ytfeabjiccnnpcaa.Ca
