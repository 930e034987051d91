import Derived.Test.YtfeabjiccnnpcaaCa
import Derived.Shelf.Abstract
set_option linter.unusedVariables false
set_option linter.unusedSimpArgs false
namespace Go.Proofs.Ytfeabjiccnnpcaa.Ca
open Go.RowKit Go.Proofs.YtfeabjiccnnpcaaW.PrintWords Go.Proofs.YtfeabjiccnnpcaaW.PrintLast Go.Proofs.Ytfeabjiccnnpcaa.Ba

/-- where p first holds -/
def idx {α : Type} (p : α → Bool) : Nat → List α → Int
  | _, [] => -1
  | k, x :: r => if p x = true then (k : Int) else idx p (k + 1) r
theorem idx_any {α : Type} (p : α → Bool) (k : Nat) (xs : List α) : decide (0 ≤ idx p k xs) = xs.any p := by
  induction xs generalizing k with
  | nil => rfl
  | cons x r ih =>
    rw [idx, List.any_cons]
    split
    · rename_i h; rw [h]; simp
    · rename_i h; rw [ih]; simp [h]

/-- what a predicate handed over does -/
def Pays {α : Type} (g : Nat) (lb : Array Value) (V : World → α → Value → Prop) (p : α → Bool) (w : World) (x : α) : Prop :=
  ∀ w1 v, Below w.heap.size w w1 → V w1 x v → Calls Try.prog g (#[v] ++ lb) w1 fun e w' => e = .returned (.bool (p x)) ∧ Below w1.heap.size w1 w'
def VInt (_ : World) (x : Int) (v : Value) : Prop := v = .int .i64 x
def VRule (_ : World) (x : Rule) (v : Value) : Prop := v = .agg #[.int .i64 x.next, .int .i64 x.shared, .bool x.back]
def VOp (_ : World) (x : Op) (v : Value) : Prop := v = .agg #[.int .i64 x.kind, .int .i64 x.cache]
def VRow (w : World) (x : List Int) (v : Value) : Prop := ∃ A c, v = .slice A x.length c ∧ x.length ≤ c ∧ Kd.C (Kd.int .i64) w A x.length x
def Enter (g : Nat) : Prop := ∀ (args : Array Value) (w : World), (callFunc g args).run Try.prog w = .ok (.enter g args) w


set_option maxHeartbeats 1000000 in
set_option maxRecDepth 100000 in
theorem indexFunc190 (A : Option Addr) (c g : Nat) (lb : Array Value) (xs : List (Int)) (p : Int → Bool) (w : World) (hr : Kd.C (Kd.int .i64) w A xs.length xs)
    (eg : Enter g) (hp : ∀ x ∈ xs, Pays g lb VInt p w x) :
    Calls Try.prog 190 #[.slice A xs.length c, .func (.func g) #[] lb] w fun e w' => e = .returned (.int .i64 (idx p 0 xs)) ∧ Below w.heap.size w w' := by
  have HR := Lib.hid hr
  have hmx := C_max hr
  have HP := Lib.hid hp
  clear hr hp
  go_enter Try.func190, Try.ntmps190
  go_wp2
  go_loopw [4, 8] (fun r i wr => ∃ (k : Nat), k ≤ xs.length ∧ i = .int .i64 k ∧ r = .int .i64 0 ∧ Hid (idx p k (xs.drop k) = idx p 0 xs) ∧ Below w.heap.size w wr) (fun _ i _ => xs.length - (intOf i).toNat)
  case atStart => exact ⟨0, Nat.zero_le _, rfl, rfl, Lib.hid rfl, Below.refl _ _⟩
  case round =>
    obtain ⟨k, hk, rfl, rfl, HI, hB⟩ := hrel
    by_cases hlt : k < xs.length
    · obtain ⟨ad, rfl, hcell0⟩ := C_int HR.out k hlt rfl
      have hd := drop_at xs k hlt
      have hpx := HP.out _ (List.getElem_mem hlt) _ _ hB rfl
      obtain ⟨x, hx⟩ : ∃ x, xs[k] = x := ⟨_, rfl⟩
      rw [hx] at hcell0 hd hpx
      have HX := Lib.hid hpx
      have HI2 : Hid ((if p x = true then (k : Int) else idx p (k + 1) (xs.drop (k + 1))) = idx p 0 xs) := Lib.hid (by have := HI.out; rw [hd, idx] at this; exact this)
      clear hpx hx hd HI
      have hcell := cell_old hB hcell0
      clear hcell0
      have eg' : ∀ (args : Array Value) (w : World), (callFunc g args).run Try.prog w = .ok (.enter g args) w := eg
      go_wp2_with (refine HX.out.mono ?_; rintro e w1 ⟨rfl, hb1⟩; by_cases hpx : p x = true)
      · have HF : Hid ((k : Int) = idx p 0 xs) := Lib.hid (by have := HI2.out; rw [if_pos hpx] at this; exact this)
        clear HI2
        go_wp2
        go_ret
        exact ⟨ret_int HF.out, below_tr hB hb1⟩
      · have HF : Hid (idx p (k + 1) (xs.drop (k + 1)) = idx p 0 xs) := Lib.hid (by have := HI2.out; rw [if_neg hpx] at this; exact this)
        have hpf : p x = false := by simpa using hpx
        clear HI2 hpx
        go_wp2
        exact ⟨⟨k + 1, by omega, by go_num, rfl, HF, below_tr hB hb1⟩, by simp [intOf]; omega⟩
    · have he : xs.drop k = [] := List.drop_of_length_le (by omega)
      have HF : Hid (-1 = idx p 0 xs) := Lib.hid (by have := HI.out; rw [he] at this; exact this)
      clear he HI
      go_wp2
      go_ret
      exact ⟨ret_int HF.out, hB⟩

set_option maxHeartbeats 1000000 in
set_option maxRecDepth 100000 in
theorem containsFunc160 (A : Option Addr) (c g : Nat) (lb : Array Value) (xs : List (Int)) (p : Int → Bool) (w : World) (hr : Kd.C (Kd.int .i64) w A xs.length xs)
    (eg : Enter g) (hp : ∀ x ∈ xs, Pays g lb VInt p w x) :
    Calls Try.prog 160 #[.slice A xs.length c, .func (.func g) #[] lb] w fun e w' => e = .returned (.bool (xs.any p)) ∧ Below w.heap.size w w' := by
  have HR := Lib.hid hr
  have HP := Lib.hid hp
  clear hr hp
  have HA := Lib.hid (idx_any p 0 xs)
  go_enter Try.func160, Try.ntmps160
  go_wp2_with (go_at_call 190; refine (indexFunc190 _ _ _ _ xs p _ HR.out eg HP.out).mono ?_; rintro e w1 ⟨rfl, hb1⟩)
  go_ret
  exact ⟨ret_bool HA.out, hb1⟩


set_option maxHeartbeats 1000000 in
set_option maxRecDepth 100000 in
theorem indexFunc163 (A : Option Addr) (c g : Nat) (lb : Array Value) (xs : List (Rule)) (p : Rule → Bool) (w : World) (hr : Kd.C kRule w A xs.length xs)
    (eg : Enter g) (hp : ∀ x ∈ xs, Pays g lb VRule p w x) :
    Calls Try.prog 163 #[.slice A xs.length c, .func (.func g) #[] lb] w fun e w' => e = .returned (.int .i64 (idx p 0 xs)) ∧ Below w.heap.size w w' := by
  have HR := Lib.hid hr
  have hmx := C_max hr
  have HP := Lib.hid hp
  clear hr hp
  go_enter Try.func163, Try.ntmps163
  go_wp2
  go_loopw [4, 8] (fun r i wr => ∃ (k : Nat), k ≤ xs.length ∧ i = .int .i64 k ∧ r = .int .i64 0 ∧ Hid (idx p k (xs.drop k) = idx p 0 xs) ∧ Below w.heap.size w wr) (fun _ i _ => xs.length - (intOf i).toNat)
  case atStart => exact ⟨0, Nat.zero_le _, rfl, rfl, Lib.hid rfl, Below.refl _ _⟩
  case round =>
    obtain ⟨k, hk, rfl, rfl, HI, hB⟩ := hrel
    by_cases hlt : k < xs.length
    · obtain ⟨ad, rfl, r0, r1, r2⟩ := C_ruleN HR.out k hlt rfl
      have hd := drop_at xs k hlt
      have hpx := HP.out _ (List.getElem_mem hlt) _ _ hB rfl
      obtain ⟨x, hx⟩ : ∃ x, xs[k] = x := ⟨_, rfl⟩
      rw [hx] at r0 r1 r2 hd hpx
      have HX := Lib.hid hpx
      have HI2 : Hid ((if p x = true then (k : Int) else idx p (k + 1) (xs.drop (k + 1))) = idx p 0 xs) := Lib.hid (by have := HI.out; rw [hd, idx] at this; exact this)
      clear hpx hx hd HI
      have s0 := cell_old hB r0
      have s1 := cell_old hB r1
      have s2 := cell_old hB r2
      clear r0 r1 r2
      have eg' : ∀ (args : Array Value) (w : World), (callFunc g args).run Try.prog w = .ok (.enter g args) w := eg
      go_wp2_with (refine HX.out.mono ?_; rintro e w1 ⟨rfl, hb1⟩; by_cases hpx : p x = true)
      · have HF : Hid ((k : Int) = idx p 0 xs) := Lib.hid (by have := HI2.out; rw [if_pos hpx] at this; exact this)
        clear HI2
        go_wp2
        go_ret
        exact ⟨ret_int HF.out, below_tr hB hb1⟩
      · have HF : Hid (idx p (k + 1) (xs.drop (k + 1)) = idx p 0 xs) := Lib.hid (by have := HI2.out; rw [if_neg hpx] at this; exact this)
        have hpf : p x = false := by simpa using hpx
        clear HI2 hpx
        go_wp2
        exact ⟨⟨k + 1, by omega, by go_num, rfl, HF, below_tr hB hb1⟩, by simp [intOf]; omega⟩
    · have he : xs.drop k = [] := List.drop_of_length_le (by omega)
      have HF : Hid (-1 = idx p 0 xs) := Lib.hid (by have := HI.out; rw [he] at this; exact this)
      clear he HI
      go_wp2
      go_ret
      exact ⟨ret_int HF.out, hB⟩

set_option maxHeartbeats 1000000 in
set_option maxRecDepth 100000 in
theorem containsFunc99 (A : Option Addr) (c g : Nat) (lb : Array Value) (xs : List (Rule)) (p : Rule → Bool) (w : World) (hr : Kd.C kRule w A xs.length xs)
    (eg : Enter g) (hp : ∀ x ∈ xs, Pays g lb VRule p w x) :
    Calls Try.prog 99 #[.slice A xs.length c, .func (.func g) #[] lb] w fun e w' => e = .returned (.bool (xs.any p)) ∧ Below w.heap.size w w' := by
  have HR := Lib.hid hr
  have HP := Lib.hid hp
  clear hr hp
  have HA := Lib.hid (idx_any p 0 xs)
  go_enter Try.func99, Try.ntmps99
  go_wp2_with (go_at_call 163; refine (indexFunc163 _ _ _ _ xs p _ HR.out eg HP.out).mono ?_; rintro e w1 ⟨rfl, hb1⟩)
  go_ret
  exact ⟨ret_bool HA.out, hb1⟩


set_option maxHeartbeats 1000000 in
set_option maxRecDepth 100000 in
theorem indexFunc192 (A : Option Addr) (c g : Nat) (lb : Array Value) (xs : List (Op)) (p : Op → Bool) (w : World) (hr : Kd.C kOp w A xs.length xs)
    (eg : Enter g) (hp : ∀ x ∈ xs, Pays g lb VOp p w x) :
    Calls Try.prog 192 #[.slice A xs.length c, .func (.func g) #[] lb] w fun e w' => e = .returned (.int .i64 (idx p 0 xs)) ∧ Below w.heap.size w w' := by
  have HR := Lib.hid hr
  have hmx := C_max hr
  have HP := Lib.hid hp
  clear hr hp
  go_enter Try.func192, Try.ntmps192
  go_wp2
  go_loopw [4, 8] (fun r i wr => ∃ (k : Nat), k ≤ xs.length ∧ i = .int .i64 k ∧ r = .int .i64 0 ∧ Hid (idx p k (xs.drop k) = idx p 0 xs) ∧ Below w.heap.size w wr) (fun _ i _ => xs.length - (intOf i).toNat)
  case atStart => exact ⟨0, Nat.zero_le _, rfl, rfl, Lib.hid rfl, Below.refl _ _⟩
  case round =>
    obtain ⟨k, hk, rfl, rfl, HI, hB⟩ := hrel
    by_cases hlt : k < xs.length
    · obtain ⟨ad, rfl, r0, r1⟩ := C_opN HR.out k hlt rfl
      have hd := drop_at xs k hlt
      have hpx := HP.out _ (List.getElem_mem hlt) _ _ hB rfl
      obtain ⟨x, hx⟩ : ∃ x, xs[k] = x := ⟨_, rfl⟩
      rw [hx] at r0 r1 hd hpx
      have HX := Lib.hid hpx
      have HI2 : Hid ((if p x = true then (k : Int) else idx p (k + 1) (xs.drop (k + 1))) = idx p 0 xs) := Lib.hid (by have := HI.out; rw [hd, idx] at this; exact this)
      clear hpx hx hd HI
      have s0 := cell_old hB r0
      have s1 := cell_old hB r1
      clear r0 r1
      have eg' : ∀ (args : Array Value) (w : World), (callFunc g args).run Try.prog w = .ok (.enter g args) w := eg
      go_wp2_with (refine HX.out.mono ?_; rintro e w1 ⟨rfl, hb1⟩; by_cases hpx : p x = true)
      · have HF : Hid ((k : Int) = idx p 0 xs) := Lib.hid (by have := HI2.out; rw [if_pos hpx] at this; exact this)
        clear HI2
        go_wp2
        go_ret
        exact ⟨ret_int HF.out, below_tr hB hb1⟩
      · have HF : Hid (idx p (k + 1) (xs.drop (k + 1)) = idx p 0 xs) := Lib.hid (by have := HI2.out; rw [if_neg hpx] at this; exact this)
        have hpf : p x = false := by simpa using hpx
        clear HI2 hpx
        go_wp2
        exact ⟨⟨k + 1, by omega, by go_num, rfl, HF, below_tr hB hb1⟩, by simp [intOf]; omega⟩
    · have he : xs.drop k = [] := List.drop_of_length_le (by omega)
      have HF : Hid (-1 = idx p 0 xs) := Lib.hid (by have := HI.out; rw [he] at this; exact this)
      clear he HI
      go_wp2
      go_ret
      exact ⟨ret_int HF.out, hB⟩

set_option maxHeartbeats 1000000 in
set_option maxRecDepth 100000 in
theorem containsFunc156 (A : Option Addr) (c g : Nat) (lb : Array Value) (xs : List (Op)) (p : Op → Bool) (w : World) (hr : Kd.C kOp w A xs.length xs)
    (eg : Enter g) (hp : ∀ x ∈ xs, Pays g lb VOp p w x) :
    Calls Try.prog 156 #[.slice A xs.length c, .func (.func g) #[] lb] w fun e w' => e = .returned (.bool (xs.any p)) ∧ Below w.heap.size w w' := by
  have HR := Lib.hid hr
  have HP := Lib.hid hp
  clear hr hp
  have HA := Lib.hid (idx_any p 0 xs)
  go_enter Try.func156, Try.ntmps156
  go_wp2_with (go_at_call 192; refine (indexFunc192 _ _ _ _ xs p _ HR.out eg HP.out).mono ?_; rintro e w1 ⟨rfl, hb1⟩)
  go_ret
  exact ⟨ret_bool HA.out, hb1⟩


set_option maxHeartbeats 1000000 in
set_option maxRecDepth 100000 in
theorem indexFunc188 (A : Option Addr) (c g : Nat) (lb : Array Value) (xs : List (List Int)) (p : List Int → Bool) (w : World) (hr : Kd.C (Kd.slice 2 (Kd.int .i64)) w A xs.length xs)
    (eg : Enter g) (hp : ∀ x ∈ xs, Pays g lb VRow p w x) :
    Calls Try.prog 188 #[.slice A xs.length c, .func (.func g) #[] lb] w fun e w' => e = .returned (.int .i64 (idx p 0 xs)) ∧ Below w.heap.size w w' := by
  have HR := Lib.hid hr
  have hmx := C_max hr
  have HP := Lib.hid hp
  clear hr hp
  go_enter Try.func188, Try.ntmps188
  go_wp2
  go_loopw [4, 8] (fun r i wr => ∃ (k : Nat), k ≤ xs.length ∧ i = .int .i64 k ∧ r = .int .i64 0 ∧ Hid (idx p k (xs.drop k) = idx p 0 xs) ∧ Below w.heap.size w wr) (fun _ i _ => xs.length - (intOf i).toNat)
  case atStart => exact ⟨0, Nat.zero_le _, rfl, rfl, Lib.hid rfl, Below.refl _ _⟩
  case round =>
    obtain ⟨k, hk, rfl, rfl, HI, hB⟩ := hrel
    by_cases hlt : k < xs.length
    · obtain ⟨ad, Ar, cr, rfl, hcell0, hcr, hCr⟩ := C_sl HR.out k hlt rfl
      have hd := drop_at xs k hlt
      have hpx := HP.out _ (List.getElem_mem hlt) _ _ hB ⟨_, _, rfl, hcr, Kd.C_below hCr hB⟩
      obtain ⟨x, hx⟩ : ∃ x, xs[k] = x := ⟨_, rfl⟩
      rw [hx] at hcell0 hcr hd hpx
      have HX := Lib.hid hpx
      have HI2 : Hid ((if p x = true then (k : Int) else idx p (k + 1) (xs.drop (k + 1))) = idx p 0 xs) := Lib.hid (by have := HI.out; rw [hd, idx] at this; exact this)
      clear hpx hx hd HI
      have hcell := cell_old hB hcell0
      clear hcell0 hCr
      have eg' : ∀ (args : Array Value) (w : World), (callFunc g args).run Try.prog w = .ok (.enter g args) w := eg
      go_wp2_with (refine HX.out.mono ?_; rintro e w1 ⟨rfl, hb1⟩; by_cases hpx : p x = true)
      · have HF : Hid ((k : Int) = idx p 0 xs) := Lib.hid (by have := HI2.out; rw [if_pos hpx] at this; exact this)
        clear HI2
        go_wp2
        go_ret
        exact ⟨ret_int HF.out, below_tr hB hb1⟩
      · have HF : Hid (idx p (k + 1) (xs.drop (k + 1)) = idx p 0 xs) := Lib.hid (by have := HI2.out; rw [if_neg hpx] at this; exact this)
        have hpf : p x = false := by simpa using hpx
        clear HI2 hpx
        go_wp2
        exact ⟨⟨k + 1, by omega, by go_num, rfl, HF, below_tr hB hb1⟩, by simp [intOf]; omega⟩
    · have he : xs.drop k = [] := List.drop_of_length_le (by omega)
      have HF : Hid (-1 = idx p 0 xs) := Lib.hid (by have := HI.out; rw [he] at this; exact this)
      clear he HI
      go_wp2
      go_ret
      exact ⟨ret_int HF.out, hB⟩

set_option maxHeartbeats 1000000 in
set_option maxRecDepth 100000 in
theorem containsFunc143 (A : Option Addr) (c g : Nat) (lb : Array Value) (xs : List (List Int)) (p : List Int → Bool) (w : World) (hr : Kd.C (Kd.slice 2 (Kd.int .i64)) w A xs.length xs)
    (eg : Enter g) (hp : ∀ x ∈ xs, Pays g lb VRow p w x) :
    Calls Try.prog 143 #[.slice A xs.length c, .func (.func g) #[] lb] w fun e w' => e = .returned (.bool (xs.any p)) ∧ Below w.heap.size w w' := by
  have HR := Lib.hid hr
  have HP := Lib.hid hp
  clear hr hp
  have HA := Lib.hid (idx_any p 0 xs)
  go_enter Try.func143, Try.ntmps143
  go_wp2_with (go_at_call 188; refine (indexFunc188 _ _ _ _ xs p _ HR.out eg HP.out).mono ?_; rintro e w1 ⟨rfl, hb1⟩)
  go_ret
  exact ⟨ret_bool HA.out, hb1⟩

end Go.Proofs.Ytfeabjiccnnpcaa.Ca
