import Derived.Test.YtfeabjiccnnpcaaSb
set_option linter.unusedVariables false
set_option linter.unusedSimpArgs false
namespace Go.Proofs.Ytfeabjiccnnpcaa.Ca
open Go.RowKit Go.Proofs.YtfeabjiccnnpcaaW.PrintWords Go.Proofs.YtfeabjiccnnpcaaW.PrintLast Go.Proofs.Ytfeabjiccnnpcaa.Ba

set_option maxHeartbeats 400000 in
theorem l00In (n a b : Int) (w : World) : Calls Try.prog 165 #[.int .i64 n, .int .i64 a, .int .i64 b] w fun e w' => e = .returned (.bool (inR n a b)) ∧ w' = w := by
  by_cases h1 : a ≤ n
  · by_cases h2 : n ≤ b
    · have b1 : decide (a ≤ n) = true := decide_eq_true h1
      have b2 : decide (n ≤ b) = true := decide_eq_true h2
      have hf : Hid (inR n a b = true) := Lib.hid (by simp [inR, h1, h2])
      go_enter Try.func165, Try.ntmps165
      go_wp2
      go_ret
      exact ⟨ret_bool hf.out.symm, rfl⟩
    · have b1 : decide (a ≤ n) = true := decide_eq_true h1
      have b2 : decide (n ≤ b) = false := decide_eq_false h2
      have hf : Hid (inR n a b = false) := Lib.hid (by simp [inR]; omega)
      go_enter Try.func165, Try.ntmps165
      go_wp2
      go_ret
      exact ⟨ret_bool hf.out.symm, rfl⟩
  · have b1 : decide (a ≤ n) = false := decide_eq_false h1
    have hf : Hid (inR n a b = false) := Lib.hid (by simp [inR]; omega)
    go_enter Try.func165, Try.ntmps165
    go_wp2
    go_ret
    exact ⟨ret_bool hf.out.symm, rfl⟩

set_option maxHeartbeats 400000 in
theorem l10Copy (n : Int) (w : World) : Calls Try.prog 166 #[.int .i64 n] w fun e w' => e = .returned (.bool (isCp n)) ∧ w' = w := by
  have hf : Hid (isCp n = inR n 0 3) := Lib.hid rfl
  go_enter Try.func166, Try.ntmps166
  go_wp2_with fail
  refine (l00In _ _ _ _).mono ?_
  rintro e w1 ⟨rfl, rfl⟩
  go_wp2
  go_ret
  exact ⟨ret_bool hf.out.symm, rfl⟩

def hasI (xs : List Int) (n : Int) : Bool := xs.contains n
set_option maxHeartbeats 1000000 in
set_option maxRecDepth 100000 in
theorem l00Has (A : Option Addr) (c : Nat) (xs : List Int) (n : Int) (w : World) (hr : Kd.C (Kd.int .i64) w A xs.length xs) :
    Calls Try.prog 116 #[.slice A xs.length c, .int .i64 n] w fun e w' => e = .returned (.bool (hasI xs n)) ∧ w' = w := by
  have HR := Lib.hid hr
  have hmx := C_max hr
  clear hr
  go_enter Try.func116, Try.ntmps116
  go_wp2
  go_loop [4, 5] (fun r i => ∃ k : Nat, k ≤ xs.length ∧ i = .int .i64 k ∧ r = .bool false ∧ Hid ((xs.take k).contains n = false)) (fun _ i => xs.length - (intOf i).toNat)
  case atStart => exact ⟨0, Nat.zero_le _, rfl, rfl, Lib.hid rfl⟩
  case round =>
    obtain ⟨k, hk, rfl, rfl, HN⟩ := hrel
    by_cases hlt : k < xs.length
    · obtain ⟨ad, rfl, hcell⟩ := C_int HR.out k hlt rfl
      have htk : xs.take (k + 1) = xs.take k ++ [xs[k]] := by rw [List.take_succ_eq_append_getElem hlt]
      have hmem : xs[k] ∈ xs := List.getElem_mem _
      obtain ⟨z, hz⟩ : ∃ z, xs[k] = z := ⟨_, rfl⟩
      rw [hz] at hcell htk hmem
      clear hz
      by_cases he : z = n
      · have b1 : (z == n) = true := by simp [he]
        have hf : Hid (hasI xs n = true) := Lib.hid (by rw [← he]; simpa [hasI] using hmem)
        clear htk hmem he
        go_wp2
        go_ret
        exact ⟨ret_bool hf.out.symm, rfl⟩
      · have b1 : (z == n) = false := by simp [he]
        have hf : Hid ((xs.take (k + 1)).contains n = false) := Lib.hid (by rw [htk, List.contains_append, HN.out]; simp; exact fun e => he e.symm)
        clear htk hmem he HN
        go_wp2
        exact ⟨⟨k + 1, by omega, by go_num, rfl, hf⟩, by simp [intOf]; omega⟩
    · have hf : Hid (hasI xs n = false) := Lib.hid (by show xs.contains n = false; have := HN.out; rwa [List.take_of_length_le (by omega)] at this)
      clear HN
      go_wp2
      go_ret
      exact ⟨ret_bool hf.out.symm, rfl⟩

def ruleAt (xs ys : List Int) (i : Nat) : Rule := ⟨xs.getD i 0, 1, hasI ys i⟩
def rules (xs ys : List Int) : List Rule := [ruleAt xs ys 0, ruleAt xs ys 1, ruleAt xs ys 2, ruleAt xs ys 3]
theorem rules_take (xs ys : List Int) (k : Nat) (h : k < 4) : (rules xs ys).take (k + 1) = (rules xs ys).take k ++ [ruleAt xs ys k] := by
  match k, h with
  | 0, _ => rfl
  | 1, _ => rfl
  | 2, _ => rfl
  | 3, _ => rfl
theorem info145 : (Try.prog.info? 145).map (fun i => (i.zero, i.size, i.bytes)) = some (some (.agg #[.int .i64 0, .int .i64 0, .bool false]), 3, 24) := by kernel_rfl

set_option maxHeartbeats 4000000 in
set_option maxRecDepth 100000 in
theorem l10Rules (A B : Option Addr) (c d : Nat) (xs ys : List Int) (w : World) (hx : xs.length = 4) (hA : Kd.C (Kd.int .i64) w A 4 xs) (hB : Kd.C (Kd.int .i64) w B ys.length ys) :
    Calls Try.prog 164 #[.slice A 4 c, .slice B ys.length d] w fun e w' => ∃ v, e = .returned v ∧ Kd.R kRule 145 w' w.heap.size (fun k => w.heap.size ≤ k) v (rules xs ys) ∧ Below w.heap.size w w' := by
  have HA := Lib.hid hA
  have HB := Lib.hid hB
  have HX := Lib.hid hx
  clear hA hB hx
  go_enter Try.func164, Try.ntmps164
  go_wp2
  go_loopw [5, 6] (fun v i wr => ∃ k : Nat, k ≤ 4 ∧ i = .int .i64 k ∧ Hid (Kd.R kRule 145 wr w.heap.size (fun k => w.heap.size ≤ k) v ((rules xs ys).take k)) ∧ Hid (Below w.heap.size w wr)) (fun _ i _ => 4 - (intOf i).toNat)
  case atStart => exact ⟨0, Nat.zero_le _, rfl, Lib.hid (R_lit0 kRule 145 w.heap.size w (Nat.le_refl _) _ (Nat.le_refl _)), Lib.hid ((Below.refl _ _).alloc (Nat.le_refl _) _)⟩
  case round =>
    obtain ⟨k, hk, rfl, HR, HBW⟩ := hrel
    by_cases hlt : k < 4
    · have b1 : decide ((k : Int) < 4) = true := decide_eq_true (by omega)
      obtain ⟨ad, rfl, hcw⟩ := C_int HA.out k (by rw [HX.out]; exact hlt) HX.out.symm
      obtain ⟨z, hz⟩ : ∃ z, xs[k]'(by rw [HX.out]; exact hlt) = z := ⟨_, rfl⟩
      rw [hz] at hcw
      have hcell := cell_old HBW.out hcw
      have hra : ruleAt xs ys k = ⟨z, 1, hasI ys k⟩ := by rw [ruleAt, ← hz]; simp [HX.out, hlt]
      have HRA := Lib.hid hra
      obtain ⟨bk, hbk⟩ : ∃ bk, hasI ys k = bk := ⟨_, rfl⟩
      rw [hbk] at HRA
      have HBK := Lib.hid hbk
      clear hz hra hbk
      go_wp2
      have b2 : ((k : Int) < 4) = True := eq_true (by omega)
      have HRd : Hid (Kd.R kRule 145 wr.drew w.heap.size (fun k => w.heap.size ≤ k) u5 ((rules xs ys).take k)) := Lib.hid (Kd.R_step HR.out (fun _ _ _ => rfl))
      have HBd : Hid (Below w.heap.size w wr.drew) := Lib.hid HBW.out.drew
      have hcd : wr.drew.cell? (ad.add k) = some (.int .i64 z) := hcell
      clear HR HBW
      refine start_ (n := 12) (S := fun w' => w'.cell? (ad.add k) = some (.int .i64 z)) (ds := []) #[false, false, false, false, false, false, false, false, false, false, false, false] (by kernel_rfl) rfl rfl (hcell) (fun hHeld => ?_)
      refine pure_ (i := 0) (N := some 12) (v := ?_) (a' := ?_) #[true, false, false, false, false, false, false, false, false, false, false, false] rfl rfl (by kernel_rfl) (fun _ _ _ h => h) (Or.inl ⟨by rfl, ?_⟩) ?_ ?_
      rotate_left
      · intro w'
        go_simp
        with_reducible rfl
      rotate_left
      · simp only [Act.put, List.setIfInBounds_toArray, List.set_cons_zero, List.set_cons_succ, i64_w, i32_w]
        rfl
      refine pure_ (i := 1) (N := some 13) (v := ?_) (a' := ?_) #[true, true, false, false, false, false, false, false, false, false, false, false] rfl rfl (by kernel_rfl) (fun _ _ _ h => h) (Or.inl ⟨by rfl, ?_⟩) ?_ ?_
      rotate_left
      · intro w'
        go_simp
        with_reducible rfl
      rotate_left
      · simp only [Act.put, List.setIfInBounds_toArray, List.set_cons_zero, List.set_cons_succ, i64_w, i32_w]
        rfl
      refine pure_ (i := 2) (N := some 14) (v := ?_) (a' := ?_) #[true, true, true, false, false, false, false, false, false, false, false, false] rfl rfl (by kernel_rfl) (fun _ _ _ h => h) (Or.inl ⟨by rfl, ?_⟩) ?_ ?_
      rotate_left
      · intro w'
        go_simp
        with_reducible rfl
      rotate_left
      · simp only [Act.put, List.setIfInBounds_toArray, List.set_cons_zero, List.set_cons_succ, i64_w, i32_w]
        rfl
      refine pure_ (i := 3) (N := some 15) (v := ?_) (a' := ?_) #[true, true, true, true, false, false, false, false, false, false, false, false] rfl rfl (by kernel_rfl) (fun _ _ _ h => h) (Or.inl ⟨by rfl, ?_⟩) ?_ ?_
      rotate_left
      · intro w'
        go_simp
        with_reducible rfl
      rotate_left
      · simp only [Act.put, List.setIfInBounds_toArray, List.set_cons_zero, List.set_cons_succ, i64_w, i32_w]
        rfl
      refine pure_ (i := 5) (N := some 17) (v := ?_) (a' := ?_) #[true, true, true, true, false, true, false, false, false, false, false, false] rfl rfl (by kernel_rfl) (fun _ _ _ h => h) (Or.inl ⟨by rfl, ?_⟩) ?_ ?_
      rotate_left
      · intro w'
        go_simp
        with_reducible rfl
      rotate_left
      · simp only [Act.put, List.setIfInBounds_toArray, List.set_cons_zero, List.set_cons_succ, i64_w, i32_w]
        rfl
      refine pure_ (i := 6) (N := some 18) (v := ?_) (a' := ?_) #[true, true, true, true, false, true, true, false, false, false, false, false] rfl rfl (by kernel_rfl) (fun _ _ _ h => h) (Or.inl ⟨by rfl, ?_⟩) ?_ ?_
      rotate_left
      · intro w'
        go_simp
        with_reducible rfl
      rotate_left
      · simp only [Act.put, List.setIfInBounds_toArray, List.set_cons_zero, List.set_cons_succ, i64_w, i32_w]
        rfl
      refine take_ (i := 4) (N := some 16) (v := ?_) (a' := ?_) #[true, true, true, true, true, true, true, false, false, false, false, false] rfl rfl (by kernel_rfl) (fun _ _ _ h => h) (Or.inl ⟨by rfl, ?_⟩) hHeld ?_ ?_
      rotate_left
      · intro w' s0
        go_simp
        with_reducible rfl
      rotate_left
      · simp only [Act.put, List.setIfInBounds_toArray, List.set_cons_zero, List.set_cons_succ, i64_w, i32_w]
        rfl
      refine one_ (i := 7) (N := some 19) #[true, true, true, true, true, true, true, true, false, false, false, false] rfl rfl (by kernel_rfl) (by decide) (fun K hK => ?_)
      generalize wr.drew = w10 at HRd HBd hcd hHeld ⊢
      refine goes_ Try.func116 (by kernel_rfl) rfl #[.slice B ys.length d, .int .i64 k] (by rfl) rfl rfl (by simp only [List.map_toArray, List.map_cons, List.map_nil]; rfl) ?_
      with_reducible refine (l00Has B d ys k _ (Kd.C_below HB.out HBd.out)).mono ?_
      rintro e w3 ⟨rfl, rfl⟩
      refine ⟨_, rfl, ?_⟩
      rw [HBK.out]
      refine hK.out _ _ (hcd) (fun hHeld => ?_)
      clear hK K
      refine norm_ (a' := ?_) ?_ ?_
      rotate_left
      · show Act.put _ (some 19) _ = _
        simp only [Act.put, List.setIfInBounds_toArray, List.set_cons_zero, List.set_cons_succ, i64_w, i32_w]
        rfl
      refine pure_ (i := 8) (N := some 20) (v := ?_) (a' := ?_) #[true, true, true, true, true, true, true, true, true, false, false, false] rfl rfl (by kernel_rfl) (fun _ _ _ h => h) (Or.inl ⟨by rfl, ?_⟩) ?_ ?_
      rotate_left
      · intro w'
        go_simp
        with_reducible rfl
      rotate_left
      · simp only [Act.put, List.setIfInBounds_toArray, List.set_cons_zero, List.set_cons_succ, i64_w, i32_w]
        rfl
      refine one_ (i := 9) (N := some 21) #[true, true, true, true, true, true, true, true, true, true, false, false] rfl rfl (by kernel_rfl) (by decide) (fun K hK => ?_)
      refine value_ (w1 := ?_) (v := ?_) (by rfl) rfl ?_ ?_
      rotate_left 2
      · go_simp
        constructor
        · rfl
        · rfl
      refine hK.out _ _ (((World.cell?_alloc_lt _ _ _ (World.block_lt_of_cell? _ _ hcd)).trans hcd)) (fun hHeld => ?_)
      clear hK K
      refine norm_ (a' := ?_) ?_ ?_
      rotate_left
      · show Act.put _ (some 21) _ = _
        simp only [Act.put, List.setIfInBounds_toArray, List.set_cons_zero, List.set_cons_succ, i64_w, i32_w]
        rfl
      refine one_ (i := 10) (N := some 22) #[true, true, true, true, true, true, true, true, true, true, true, false] rfl rfl (by kernel_rfl) (by decide) (fun K hK => ?_)
      refine Kd.R_append_step kRule (w0 := w) w.heap.size (by rfl) (.tmp 12) (.tmp 21) 48 145 (.agg #[(.int .i64 0), (.int .i64 0), (.bool false)]) 24 rfl Try.underlying48 info145 rfl (by decide) (by omega) u5 ((rules xs ys).take k) (⟨z, 1, bk⟩ : Rule) [.int .i64 z, .int .i64 1, .bool bk] (fun k => w.heap.size ≤ k) (fun _ => False) rfl rfl (kRule_mkM _ _ _ ⟨z, 1, bk⟩) (fun _ hk => hk.elim) (fun q hq => by have := HBd.out.size; omega) HRd.out HBd.out HBd.out.size (by simp; omega) ?_
      intro v5 w5 hR5 hB5 hG5 hat5
      have HR5 := Lib.hid hR5
      have HB5 := Lib.hid hB5
      clear hR5 hB5 hat5 hG5
      refine hK.out _ _ ((cell_old HB5.out hcw)) (fun hHeld => ?_)
      clear hK K
      refine norm_ (a' := ?_) ?_ ?_
      rotate_left
      · show Act.put _ (some 22) _ = _
        simp only [Act.put, List.setIfInBounds_toArray, List.set_cons_zero, List.set_cons_succ, i64_w, i32_w]
        rfl
      refine pure_ (i := 11) (N := some 5) (v := ?_) (a' := ?_) #[true, true, true, true, true, true, true, true, true, true, true, true] rfl rfl (by kernel_rfl) (fun _ _ _ h => h) (Or.inl ⟨by rfl, ?_⟩) ?_ ?_
      rotate_left
      · intro w'
        go_simp
        with_reducible rfl
      rotate_left
      · simp only [Act.put, List.setIfInBounds_toArray, List.set_cons_zero, List.set_cons_succ, i64_w, i32_w]
        rfl
      refine done_ (by kernel_rfl) ?_
      go_wp2
      go_roundw
      case rel => exact ⟨k + 1, by omega, by go_num, Lib.hid (by rw [rules_take xs ys k hlt, HRA.out]; exact HR5.out), HB5⟩
      case measure => simp [intOf]; omega
    · have b1 : decide ((k : Int) < 4) = false := decide_eq_false (by omega)
      obtain rfl : k = 4 := by omega
      go_wp2
      go_ret
      exact ⟨_, rfl, HR.out, HBW.out⟩
end Go.Proofs.Ytfeabjiccnnpcaa.Ca
