import Derived.Test.YtfeabjiccnnpcaaJa
import Derived.Test.YtfeabjiccnnpcaaBld
import Derived.Test.YtfeabjiccnnpcaaShelf
set_option linter.unusedVariables false
set_option linter.unusedSimpArgs false
namespace Go.Proofs.Ytfeabjiccnnpcaa.Ja
open Go.RowKit Go.Proofs.YtfeabjiccnnpcaaW.PrintWords Go.Proofs.Ytfeabjiccnnpcaa.Ba

theorem strCells_append (a b : ByteArray) : Lib.strCells a ++ Lib.strCells b = Lib.strCells (a ++ b) := by simp [Lib.strCells]
theorem strCells_eq (a : ByteArray) : Lib.strCells a = Lib.byteCells a.data.toList := by simp [Lib.strCells, Lib.byteCells]
def nl (l : ByteArray) : Bool := decide (0 ≤ Lib.indexByte l.data.toList 10)
/-- does the journal stand -/
def good (t : Nat) : List ByteArray → Bool
  | [] => true
  | l :: r => if nl l = true then false else if 4000 < t + l.size + 4 then false else good (t + l.size + 4) r

def jres (ls : List ByteArray) : ByteArray × Bool := if good 0 ls = true then (jgo ⟨#[]⟩ ⟨#[]⟩ ls, true) else (⟨#[]⟩, false)

set_option maxHeartbeats 1000000 in
set_option maxRecDepth 100000 in
theorem JournalOf (A : Option Addr) (c : Nat) (ls : List ByteArray) (w : World) (hr : Kd.C Kd.string w A ls.length ls) (hc : ls.length ≤ c) (M : Nat) (hM : M + 100 ≤ 140737488355328) (ht : tot ls ≤ M) :
    Calls Try.prog 18 #[.slice A ls.length c] w fun e w' => e = .returned (.tuple #[.string (jres ls).1, .bool (jres ls).2]) ∧ Below w.heap.size w w' := by
  have HR := Lib.hid hr
  have hmx := C_max hr
  clear hr
  go_enter Try.func18, Try.ntmps18
  go_wp2
  go_loopw [2, 3, 5, 7, 10] (fun r1 r2 cc x i wr => ∃ (k : Nat) (bs : List Value) (oo c0 : ByteArray), k ≤ ls.length ∧ i = .int .i64 k ∧ r1 = .string ⟨#[]⟩ ∧ r2 = .bool false ∧ cc = .string c0 ∧ c0.size ≤ 2 ∧ oo.size ≤ 4000 ∧ Lib.IsBuilder 98 5 w.heap.size w.heap.size (Lib.strCells oo) wr ∧ Hid (oo.size + tot (ls.drop k) ≤ M ∧ jgo c0 oo (ls.drop k) = jgo ⟨#[]⟩ ⟨#[]⟩ ls ∧ good oo.size (ls.drop k) = good 0 ls) ∧ Below w.heap.size w wr ∧ w.heap.size ≤ wr.heap.size) (fun _ _ _ _ i _ => ls.length - (intOf i).toNat)
  case atStart => exact ⟨0, [], ⟨#[]⟩, ⟨#[]⟩, Nat.zero_le _, rfl, rfl, rfl, rfl, Nat.zero_le _, Nat.zero_le _, Bld.bld_new w, Lib.hid ⟨by show 0 + _ ≤ _; simpa using ht, rfl, rfl⟩, (Below.refl _ _).alloc (Nat.le_refl _) _, by simp⟩
  case round =>
    obtain ⟨k, bs, oo, c0, hk, rfl, rfl, rfl, rfl, hcc, hoo, HI, HJ, hB, hsz⟩ := hrel
    by_cases hlt : k < ls.length
    · obtain ⟨ad, rfl, hcell⟩ := C_str HR.out k hlt rfl
      have hcell1 := cell_old hB hcell
      clear hcell
      have hd := drop_at ls k hlt
      obtain ⟨x, hx⟩ : ∃ x, ls[k] = x := ⟨_, rfl⟩
      rw [hx] at hcell1 hd
      have HJ1 : Hid (oo.size + (x.size + 4 + tot (ls.drop (k + 1))) ≤ M ∧ jgo (letters (c0 ++ x)) (oo ++ (((letters (c0 ++ x) ++ ⟨#[32]⟩) ++ x) ++ ⟨#[10]⟩)) (ls.drop (k + 1)) = jgo ⟨#[]⟩ ⟨#[]⟩ ls ∧ (if nl x = true then false else if 4000 < oo.size + x.size + 4 then false else good (oo.size + x.size + 4) (ls.drop (k + 1))) = good 0 ls) := by
        have := HJ.out
        rw [hd] at this
        exact Lib.hid ⟨by simp only [tot, List.map_cons, List.sum_cons] at this ⊢; exact this.1, this.2⟩
      clear hd HJ
      have hx4 := HJ1.out.1
      clear hx
      have l2 := letters_size (c0 ++ x)
      go_wp2_with (go_at_call 66; refine (CheckLetters _ _ (by rw [size_append]; omega)).mono ?_; rintro e w1 ⟨rfl, hb1⟩)
      have hB1 := below_tr hB hb1
      have hs1 := hb1.size
      have hlen : (((letters (c0 ++ x) ++ ⟨#[32]⟩) ++ x) ++ ⟨#[10]⟩).size = x.size + 4 := by simp only [size_append, l2]; show 2 + 1 + x.size + 1 = _; omega
      refine (Bld.writeString w.heap.size w.heap.size (Lib.strCells oo) _ w1 (Bld.bld_below HI hb1) (by rw [Lib.strCells_length, hlen]; omega) (by omega)).mono ?_
      rintro e w2 ⟨rfl, hI2, hb2⟩
      rw [strCells_append] at hI2
      have hB2 := hB1.trans hb2
      have hs2 := hb2.size
      have ho2 : (oo ++ (((letters (c0 ++ x) ++ ⟨#[32]⟩) ++ x) ++ ⟨#[10]⟩)).size = oo.size + x.size + 4 := by rw [size_append, hlen]; omega
      generalize hg : oo ++ (((letters (c0 ++ x) ++ ⟨#[32]⟩) ++ x) ++ ⟨#[10]⟩) = o2 at *
      clear hg hlen HI
      have Ho2 := Lib.hid ho2
      clear ho2
      by_cases hn : 0 ≤ Lib.indexByte x.data.toList 10
      · have hn1 : decide (0 ≤ Lib.indexByte x.data.toList 10) = true := decide_eq_true hn
        have HF : Hid (good 0 ls = false) := Lib.hid (by have := HJ1.out.2.2; rw [if_pos (by exact hn1)] at this; exact this.symm)
        clear hn HJ1
        go_wp2_with (go_at_call 68; refine (Try.strings_Contains_one _ _ _).mono ?_; rintro e w' ⟨rfl, rfl⟩)
        go_ret2
        exact ⟨by simp [jres, HF.out], hB2⟩
      · have hn1 : decide (0 ≤ Lib.indexByte x.data.toList 10) = false := decide_eq_false hn
        clear hn
        have HJ2 := Lib.hid HJ1.out
        clear HJ1
        have hlen2 : (Lib.strCells o2).length = oo.size + x.size + 4 := by rw [Lib.strCells_length]; exact Ho2.out
        by_cases hbig : 4000 < oo.size + x.size + 4
        all_goals have HL := Lib.hid hlen2; clear hlen2
        go_wp2_with (go_at_call 68; refine (Try.strings_Contains_one _ _ _).mono ?_; rintro e w' ⟨rfl, rfl⟩)
        all_goals refine (Try.Builder_Len _ _ _ _ (.inr hI2)).mono ?_
        all_goals rintro e w' ⟨rfl, rfl⟩
        all_goals rw [HL.out]
        all_goals go_wp2
        · have hF : good 0 ls = false := by have := HJ2.out.2.2; rw [if_neg (by show ¬ decide _ = true; rw [hn1]; decide), if_pos hbig] at this; exact this.symm
          go_ret2
          exact ⟨by simp [jres, hF], hB2⟩
        · have hF : good (oo.size + x.size + 4) (List.drop (k + 1) ls) = good 0 ls := by have := HJ2.out.2.2; rw [if_neg (by show ¬ decide _ = true; rw [hn1]; decide), if_neg hbig] at this; exact this
          have ho := Ho2.out
          refine ⟨⟨k + 1, bs, o2, _, by omega, by go_num, rfl, rfl, rfl, by omega, by omega, .inr hI2, Lib.hid ⟨?_, HJ2.out.2.1, ?_⟩, hB2, by omega⟩, by simp [intOf]; omega⟩
          · have := HJ2.out.1; omega
          · rw [ho]; exact hF
    · have he : ls.drop k = [] := List.drop_of_length_le (by omega)
      have hJ := HJ.out
      rw [he] at hJ
      have HF : Hid (oo = jgo ⟨#[]⟩ ⟨#[]⟩ ls ∧ true = good 0 ls) := Lib.hid hJ.2
      clear hJ he HJ
      have HI' : Lib.IsBuilder 98 5 w.heap.size w.heap.size (Lib.byteCells oo.data.toList) wr := by rw [← strCells_eq]; exact HI
      go_wp2_with (go_at_call 70; refine (Try.Builder_String_any _ _ _ _ HI' (by omega)).mono ?_; rintro e w1 ⟨rfl, hb1⟩)
      go_ret2
      exact ⟨by simp [jres, ← HF.out.2, ← HF.out.1], hB.trans hb1⟩
end Go.Proofs.Ytfeabjiccnnpcaa.Ja
