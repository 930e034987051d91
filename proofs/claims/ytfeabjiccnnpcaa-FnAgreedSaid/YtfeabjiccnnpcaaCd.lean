import Derived.Test.YtfeabjiccnnpcaaCc
import Derived.Test.YtfeabjiccnnpcaaCb
set_option linter.unusedVariables false
set_option linter.unusedSimpArgs false
namespace Go.Proofs.Ytfeabjiccnnpcaa.Ca
open Go.RowKit Go.Proofs.YtfeabjiccnnpcaaW.PrintWords Go.Proofs.YtfeabjiccnnpcaaW.PrintLast Go.Proofs.Ytfeabjiccnnpcaa.Ba


set_option maxHeartbeats 1000000 in
set_option maxRecDepth 100000 in
theorem index193 (A : Option Addr) (c : Nat) (v : Bool) (xs : List (Bool)) (w : World) (hr : Kd.C Kd.bool w A xs.length xs) :
    Calls Try.prog 193 #[.slice A xs.length c, .bool v] w fun e w' => e = .returned (.int .i64 (idx (fun x => v == x) 0 xs)) ∧ w' = w := by
  have HR := Lib.hid hr
  have hmx := C_max hr
  clear hr
  go_enter Try.func193, Try.ntmps193
  go_wp2
  go_loop [4, 8] (fun r i => ∃ (k : Nat), k ≤ xs.length ∧ i = .int .i64 k ∧ r = .int .i64 0 ∧ Hid (idx (fun x => v == x) k (xs.drop k) = idx (fun x => v == x) 0 xs)) (fun _ i => xs.length - (intOf i).toNat)
  case atStart => exact ⟨0, Nat.zero_le _, rfl, rfl, Lib.hid rfl⟩
  case round =>
    obtain ⟨k, hk, rfl, rfl, HI⟩ := hrel
    by_cases hlt : k < xs.length
    · obtain ⟨ad, rfl, hcell⟩ := C_bool HR.out k hlt rfl
      have hd := drop_at xs k hlt
      obtain ⟨x, hx⟩ : ∃ x, xs[k] = x := ⟨_, rfl⟩
      rw [hx] at hcell hd
      have HI2 : Hid ((if (v == x) = true then (k : Int) else idx (fun x => v == x) (k + 1) (xs.drop (k + 1))) = idx (fun x => v == x) 0 xs) := Lib.hid (by have := HI.out; rw [hd, idx] at this; exact this)
      clear hx hd HI
      cases hvx : (v == x) with
      | true =>
        have HF : Hid ((k : Int) = idx (fun x => v == x) 0 xs) := Lib.hid (by have := HI2.out; rw [if_pos hvx] at this; exact this)
        clear HI2
        go_wp2
        go_ret
        exact ⟨ret_int HF.out, rfl⟩
      | false =>
        have HF : Hid (idx (fun x => v == x) (k + 1) (xs.drop (k + 1)) = idx (fun x => v == x) 0 xs) := Lib.hid (by have := HI2.out; rw [if_neg (by simp [hvx])] at this; exact this)
        clear HI2
        go_wp2
        exact ⟨⟨k + 1, by omega, by go_num, rfl, HF⟩, by simp [intOf]; omega⟩
    · have he : xs.drop k = [] := List.drop_of_length_le (by omega)
      have HF : Hid (-1 = idx (fun x => v == x) 0 xs) := Lib.hid (by have := HI.out; rw [he] at this; exact this)
      clear he HI
      go_wp2
      go_ret
      exact ⟨ret_int HF.out, rfl⟩

set_option maxHeartbeats 1000000 in
set_option maxRecDepth 100000 in
theorem contains162 (A : Option Addr) (c : Nat) (v : Bool) (xs : List (Bool)) (w : World) (hr : Kd.C Kd.bool w A xs.length xs) :
    Calls Try.prog 162 #[.slice A xs.length c, .bool v] w fun e w' => e = .returned (.bool (xs.any (fun x => v == x))) ∧ w' = w := by
  have HR := Lib.hid hr
  clear hr
  have HA := Lib.hid (idx_any (fun x => v == x) 0 xs)
  go_enter Try.func162, Try.ntmps162
  go_wp2_with (go_at_call 193; refine (index193 _ _ _ xs _ HR.out).mono ?_; rintro e w1 ⟨rfl, rfl⟩)
  go_ret
  exact ⟨ret_bool HA.out, rfl⟩


set_option maxHeartbeats 1000000 in
set_option maxRecDepth 100000 in
theorem index189 (A : Option Addr) (c : Nat) (v : Int) (xs : List (Int)) (w : World) (hr : Kd.C (Kd.int .i64) w A xs.length xs) :
    Calls Try.prog 189 #[.slice A xs.length c, .int .i64 v] w fun e w' => e = .returned (.int .i64 (idx (fun x => v == x) 0 xs)) ∧ w' = w := by
  have HR := Lib.hid hr
  have hmx := C_max hr
  clear hr
  go_enter Try.func189, Try.ntmps189
  go_wp2
  go_loop [4, 8] (fun r i => ∃ (k : Nat), k ≤ xs.length ∧ i = .int .i64 k ∧ r = .int .i64 0 ∧ Hid (idx (fun x => v == x) k (xs.drop k) = idx (fun x => v == x) 0 xs)) (fun _ i => xs.length - (intOf i).toNat)
  case atStart => exact ⟨0, Nat.zero_le _, rfl, rfl, Lib.hid rfl⟩
  case round =>
    obtain ⟨k, hk, rfl, rfl, HI⟩ := hrel
    by_cases hlt : k < xs.length
    · obtain ⟨ad, rfl, hcell⟩ := C_int HR.out k hlt rfl
      have hd := drop_at xs k hlt
      obtain ⟨x, hx⟩ : ∃ x, xs[k] = x := ⟨_, rfl⟩
      rw [hx] at hcell hd
      have HI2 : Hid ((if (v == x) = true then (k : Int) else idx (fun x => v == x) (k + 1) (xs.drop (k + 1))) = idx (fun x => v == x) 0 xs) := Lib.hid (by have := HI.out; rw [hd, idx] at this; exact this)
      clear hx hd HI
      cases hvx : (v == x) with
      | true =>
        have HF : Hid ((k : Int) = idx (fun x => v == x) 0 xs) := Lib.hid (by have := HI2.out; rw [if_pos hvx] at this; exact this)
        clear HI2
        go_wp2
        go_ret
        exact ⟨ret_int HF.out, rfl⟩
      | false =>
        have HF : Hid (idx (fun x => v == x) (k + 1) (xs.drop (k + 1)) = idx (fun x => v == x) 0 xs) := Lib.hid (by have := HI2.out; rw [if_neg (by simp [hvx])] at this; exact this)
        clear HI2
        go_wp2
        exact ⟨⟨k + 1, by omega, by go_num, rfl, HF⟩, by simp [intOf]; omega⟩
    · have he : xs.drop k = [] := List.drop_of_length_le (by omega)
      have HF : Hid (-1 = idx (fun x => v == x) 0 xs) := Lib.hid (by have := HI.out; rw [he] at this; exact this)
      clear he HI
      go_wp2
      go_ret
      exact ⟨ret_int HF.out, rfl⟩

set_option maxHeartbeats 1000000 in
set_option maxRecDepth 100000 in
theorem contains145 (A : Option Addr) (c : Nat) (v : Int) (xs : List (Int)) (w : World) (hr : Kd.C (Kd.int .i64) w A xs.length xs) :
    Calls Try.prog 145 #[.slice A xs.length c, .int .i64 v] w fun e w' => e = .returned (.bool (xs.any (fun x => v == x))) ∧ w' = w := by
  have HR := Lib.hid hr
  clear hr
  have HA := Lib.hid (idx_any (fun x => v == x) 0 xs)
  go_enter Try.func145, Try.ntmps145
  go_wp2_with (go_at_call 189; refine (index189 _ _ _ xs _ HR.out).mono ?_; rintro e w1 ⟨rfl, rfl⟩)
  go_ret
  exact ⟨ret_bool HA.out, rfl⟩

end Go.Proofs.Ytfeabjiccnnpcaa.Ca
