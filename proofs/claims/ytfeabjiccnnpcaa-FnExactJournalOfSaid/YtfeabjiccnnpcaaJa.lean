import Derived.Test.YtfeabjiccnnpcaaBa
set_option linter.unusedVariables false
set_option linter.unusedSimpArgs false
namespace Go.Proofs.Ytfeabjiccnnpcaa.Ja
open Go.RowKit Go.Proofs.YtfeabjiccnnpcaaW.PrintWords Go.Proofs.Ytfeabjiccnnpcaa.Ba

/-- the check number behind a text -/
def hsh (n : Int) : List UInt8 → Int
  | [] => n
  | c :: r => hsh ((31 * n + (c.toNat : Int)) % 676) r
theorem hsh_bd (n : Int) (h0 : 0 ≤ n) (h1 : n < 676) : ∀ l, 0 ≤ hsh n l ∧ hsh n l < 676 := by
  intro l
  induction l generalizing n with
  | nil => exact ⟨h0, h1⟩
  | cons c r ih => exact ih _ (by omega) (by omega)
theorem hsh_append (n : Int) (l m : List UInt8) : hsh n (l ++ m) = hsh (hsh n l) m := by
  induction l generalizing n with
  | nil => rfl
  | cons c r ih => exact ih _
def lettersOf (h : Int) : ByteArray := ⟨#[UInt8.ofNat (97 + h / 26).toNat, UInt8.ofNat (97 + h % 26).toNat]⟩
def letters (s : ByteArray) : ByteArray := lettersOf (hsh 1 s.data.toList)
theorem letters_size (s : ByteArray) : (letters s).size = 2 := rfl

theorem take_snoc (s : ByteArray) (k : Nat) (h : k < s.size) : s.data.toList.take (k + 1) = s.data.toList.take k ++ [s[k]] := by
  rw [List.take_succ_eq_append_getElem (by simpa using h)]; rfl
theorem hsh_snoc (s : ByteArray) (k : Nat) (h : k < s.size) : hsh 1 (s.data.toList.take (k + 1)) = (31 * hsh 1 (s.data.toList.take k) + (s[k].toNat : Int)) % 676 := by
  rw [take_snoc s k h, hsh_append]; rfl

theorem conv2 (x y : Int) (W : World) : (convert 29 9 (.slice (some ⟨W.heap.size, 0, none⟩) 2 2)).run Try.prog (W.alloc (.cells #[.int .u8 x, .int .u8 y] 5)) = .ok (.string ⟨#[UInt8.ofNat x.toNat, UInt8.ofNat y.toNat]⟩) (W.alloc (.cells #[.int .u8 x, .int .u8 y] 5)) :=
  own_string Try.underlying29 Try.underlying5 Try.underlying9 (own_lit W W.heap.size 5 .u8 [x, y] (Nat.le_refl _) (by simp))

set_option maxHeartbeats 1000000 in
set_option maxRecDepth 100000 in
theorem l01Letters (s : ByteArray) (w : World) (hs : s.size ≤ 9223372036854775807) :
    Calls Try.prog 131 #[.string s] w fun e w' => e = .returned (.string (letters s)) ∧ Below w.heap.size w w' := by
  go_enter Try.func131, Try.ntmps131
  go_wp2
  go_loop [3, 4] (fun n i => ∃ k : Nat, k ≤ s.size ∧ i = .int .i64 k ∧ n = .int .i64 (hsh 1 (s.data.toList.take k))) (fun _ i => s.size - (intOf i).toNat)
  case atStart => exact ⟨0, Nat.zero_le _, rfl, rfl⟩
  case round =>
    obtain ⟨k, hk, rfl, rfl⟩ := hrel
    have hd := hsh_bd 1 (by omega) (by omega) (s.data.toList.take k)
    by_cases hlt : k < s.size
    · have hsn := Lib.hid (hsh_snoc s k hlt)
      have hb : s[k].toNat < 256 := s[k].toNat_lt
      go_wp2
      exact ⟨⟨k + 1, by omega, by go_num, by rw [hsn.out]⟩, by simp [intOf]; omega⟩
    · have hcv := conv2 (97 + hsh 1 (List.take k s.data.toList) / 26) (97 + hsh 1 (List.take k s.data.toList) % 26)
      go_wp2
      go_ret
      exact ⟨ret_str (by rw [List.take_of_length_le (by simp; omega)]; rfl), (Below.refl _ _).alloc (Nat.le_refl _) _⟩

set_option maxHeartbeats 1000000 in
set_option maxRecDepth 100000 in
theorem CheckLetters (s : ByteArray) (w : World) (hs : s.size ≤ 9223372036854775807) :
    Calls Try.prog 66 #[.string s] w fun e w' => e = .returned (.string (letters s)) ∧ Below w.heap.size w w' := by
  go_enter Try.func66, Try.ntmps66
  go_wp2
  go_loop [3, 7] (fun n i => ∃ k : Nat, k ≤ s.size ∧ i = .int .i64 k ∧ n = .int .i64 (hsh 1 (s.data.toList.take k))) (fun _ i => s.size - (intOf i).toNat)
  case atStart => exact ⟨0, Nat.zero_le _, rfl, rfl⟩
  case round =>
    obtain ⟨k, hk, rfl, rfl⟩ := hrel
    have hd := hsh_bd 1 (by omega) (by omega) (s.data.toList.take k)
    by_cases hlt : k < s.size
    · have hsn := Lib.hid (hsh_snoc s k hlt)
      have hb : s[k].toNat < 256 := s[k].toNat_lt
      go_wp2
      exact ⟨⟨k + 1, by omega, by go_num, by rw [hsn.out]⟩, by simp [intOf]; omega⟩
    · have hcv := conv2 (97 + hsh 1 (List.take k s.data.toList) / 26) (97 + hsh 1 (List.take k s.data.toList) % 26)
      go_wp2
      go_ret
      exact ⟨ret_str (by rw [List.take_of_length_le (by simp; omega)]; rfl), (Below.refl _ _).alloc (Nat.le_refl _) _⟩

theorem run_add (x y : ByteArray) (h : x.size + y.size ≤ 9223372036854775807) (w : World) : (binOp .add 9 (.string x) (.string y)).run Try.prog w = .ok (.string (x ++ y)) w := by
  have : ¬ ((x.size + y.size : Nat) : Int) > IntKind.i64.max := by
    have e : IntKind.i64.max = 9223372036854775807 := by decide
    rw [e]; omega
  simp only [binOp]
  simp only [run_underlying Try.underlying9, Sem.run_bind, Result.andThen_ok, Op.stringOp, if_neg this, Sem.run_pure]

def rest (l : ByteArray) : ByteArray := letters l

/-- the journal's text -/
def jgo (c o : ByteArray) : List ByteArray → ByteArray
  | [] => o
  | l :: r => jgo (letters (c ++ l)) (o ++ (((letters (c ++ l) ++ ⟨#[32]⟩) ++ l) ++ ⟨#[10]⟩)) r
def tot (ls : List ByteArray) : Nat := (ls.map (·.size + 4)).sum
theorem size_append (a b : ByteArray) : (a ++ b).size = a.size + b.size := ByteArray.size_append ..
theorem jgo_size (c o : ByteArray) (ls : List ByteArray) : (jgo c o ls).size = o.size + tot ls := by
  induction ls generalizing c o with
  | nil => rfl
  | cons l r ih => rw [jgo, ih]; simp only [size_append, letters_size, tot, List.map_cons, List.sum_cons]; show _ + (2 + 1 + l.size + 1) + _ = _; omega

set_option maxHeartbeats 1000000 in
set_option maxRecDepth 100000 in
theorem l11Journal (A : Option Addr) (c : Nat) (ls : List ByteArray) (w : World) (hr : Kd.C Kd.string w A ls.length ls) (hc : ls.length ≤ c) (M : Nat) (hM : M + 100 ≤ 9223372036854775807) (ht : tot ls ≤ M) :
    Calls Try.prog 65 #[.slice A ls.length c] w fun e w' => e = .returned (.string (jgo ⟨#[]⟩ ⟨#[]⟩ ls)) ∧ Below w.heap.size w w' := by
  have HR := Lib.hid hr
  have hmx := C_max hr
  clear hr
  go_enter Try.func65, Try.ntmps65
  go_wp2
  go_loopw [3, 4, 5] (fun o l i wr => ∃ (k : Nat) (oo cc : ByteArray), k ≤ ls.length ∧ i = .int .i64 k ∧ o = .string oo ∧ l = .string cc ∧ cc.size ≤ 2 ∧ Hid (oo.size + tot (ls.drop k) ≤ M ∧ jgo cc oo (ls.drop k) = jgo ⟨#[]⟩ ⟨#[]⟩ ls) ∧ Below w.heap.size w wr) (fun _ _ i _ => ls.length - (intOf i).toNat)
  case atStart => exact ⟨0, _, _, Nat.zero_le _, rfl, rfl, rfl, Nat.zero_le _, Lib.hid ⟨by show 0 + _ ≤ _; simpa using ht, rfl⟩, Below.refl _ _⟩
  case round =>
    obtain ⟨k, oo, cc, hk, rfl, rfl, rfl, hcc, HJ, hB⟩ := hrel
    by_cases hlt : k < ls.length
    · obtain ⟨ad, rfl, hcell⟩ := C_str HR.out k hlt rfl
      have hcell1 := cell_old hB hcell
      clear hcell
      have hd := drop_at ls k hlt
      obtain ⟨x, hx⟩ : ∃ x, ls[k] = x := ⟨_, rfl⟩
      rw [hx] at hcell1 hd
      have HJ1 : Hid (oo.size + (x.size + 4 + tot (ls.drop (k + 1))) ≤ M ∧ jgo (letters (cc ++ x)) (oo ++ (((letters (cc ++ x) ++ ⟨#[32]⟩) ++ x) ++ ⟨#[10]⟩)) (ls.drop (k + 1)) = jgo ⟨#[]⟩ ⟨#[]⟩ ls) := by
        have := HJ.out
        rw [hd] at this
        exact Lib.hid ⟨by simp only [tot, List.map_cons, List.sum_cons] at this ⊢; exact this.1, this.2⟩
      clear hd HJ
      have hx4 := HJ1.out.1
      clear hx
      have l2 := letters_size (cc ++ x)
      go_wp2_with (go_at_call 131; refine (l01Letters _ _ (by rw [size_append]; omega)).mono ?_; rintro e w1 ⟨rfl, hb1⟩; have hcell2 := cell_old hb1 hcell1; clear hcell1)
      refine ⟨⟨k + 1, _, _, by omega, by go_num, rfl, rfl, by omega, Lib.hid ⟨by simp only [size_append, l2]; show _ + (2 + 1 + x.size + 1) + _ ≤ _; omega, HJ1.out.2⟩, below_tr hB hb1⟩, by simp [intOf]; omega⟩
    · have he : ls.drop k = [] := List.drop_of_length_le (by omega)
      have hJ := HJ.out.2
      rw [he] at hJ
      have HF := Lib.hid hJ
      clear hJ he HJ
      go_wp2
      go_ret
      exact ⟨ret_str HF.out, hB⟩
end Go.Proofs.Ytfeabjiccnnpcaa.Ja
