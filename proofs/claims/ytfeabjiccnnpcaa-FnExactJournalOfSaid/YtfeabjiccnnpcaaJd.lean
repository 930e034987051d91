import Derived.Test.YtfeabjiccnnpcaaJc
set_option linter.unusedVariables false
set_option linter.unusedSimpArgs false
namespace Go.Proofs.Ytfeabjiccnnpcaa.Ja
open Go.RowKit Go.Proofs.YtfeabjiccnnpcaaW.PrintWords Go.Proofs.Ytfeabjiccnnpcaa.Ba

theorem left_neg {ls : List ByteArray} (h : left 1048576 ls < 0) : left 1048576 ls = -1 := by
  unfold left at h ⊢
  split at h
  · rw [if_pos (by assumption)]
  · omega
theorem left_nonneg {ls : List ByteArray} (h : ¬ left 1048576 ls < 0) : (ls.length : Int) + sizes ls ≤ 1048576 := by
  unfold left at h
  split at h <;> omega

set_option maxHeartbeats 1000000 in
set_option maxRecDepth 100000 in
theorem law (A : Option Addr) (c : Nat) (ls : List ByteArray) (w : World) (hr : Kd.C Kd.string w A ls.length ls) (hc : ls.length ≤ c) (hb : ∀ x ∈ ls, x.size ≤ 9223372036854775807) :
    Calls Try.prog 3 #[.slice A ls.length c] w fun e w' => e = .returned (.bool true) ∧ Below w.heap.size w w' := by
  have HR := Lib.hid hr
  have hmx := C_max hr
  clear hr
  go_enter Try.func3, Try.ntmps3
  go_wp2_with fail
  refine (szStringS A c ls 1048576 _ HR.out hc hmx (by omega) (by omega) hb).mono ?_
  rintro e w' ⟨rfl, rfl⟩
  by_cases hneg : left 1048576 ls < 0
  · have HE := Lib.hid (left_neg hneg)
    go_wp2_with fail
    go_ret
    exact ⟨rfl, Below.refl _ _⟩
  · have hsum := left_nonneg hneg
    have ht : tot ls ≤ 6000000 := by rw [tot_sizes]; omega
    go_wp2_with fail
    refine (toStringS A c ls _ HR.out hc (by omega)).mono ?_
    rintro e w1 ⟨v, rfl, hv, hb1⟩
    obtain ⟨A1, c1, rfl, hc1, hr1⟩ := Kd.R_reads hv
    clear hv
    have HR1 := Lib.hid hr1
    clear hr1
    go_wp2_with fail
    refine (specJournalOf A1 c1 ls _ HR1.out hc1 6000000 (by omega) ht).mono ?_
    rintro e w2 ⟨rfl, hb2⟩
    clear HR1
    have HR2 := Lib.hid (Kd.C_below (Kd.C_below HR.out hb1) hb2)
    go_wp2_with fail
    refine (toStringS A c ls _ HR2.out hc (by omega)).mono ?_
    rintro e w3 ⟨v, rfl, hv, hb3⟩
    obtain ⟨A3, c3, rfl, hc3, hr3⟩ := Kd.R_reads hv
    clear hv
    have HR3 := Lib.hid hr3
    clear hr3
    go_wp2_with fail
    refine (JournalOf A3 c3 ls _ HR3.out hc3 6000000 (by omega) ht).mono ?_
    rintro e w4 ⟨rfl, hb4⟩
    have HR4 := Lib.hid (Kd.C_below HR3.out hb4)
    have HR5 := Lib.hid (Kd.C_below (Kd.C_below HR2.out hb3) hb4)
    have HB := Lib.hid (below_tr (below_tr (below_tr hb1 hb2) hb3) hb4)
    clear hb1 hb2 hb3 hb4 HR2 HR3
    go_wp2_with fail
    refine (toStringS A c ls _ HR5.out hc (by omega)).mono ?_
    rintro e w5 ⟨v, rfl, hv, hb5⟩
    obtain ⟨A5, c5, rfl, hc5, hr5⟩ := Kd.R_reads hv
    clear hv
    have HR6 := Lib.hid hr5
    clear hr5
    go_wp2_with fail
    refine (eqStringS A3 c3 A5 c5 ls _ (Kd.C_below HR4.out hb5) HR6.out (by omega)).mono ?_
    rintro e w6 ⟨rfl, hd6⟩
    go_wp2_with fail
    go_ret
    exact ⟨rfl, below_tr (below_tr HB.out hb5) hd6.below⟩
end Go.Proofs.Ytfeabjiccnnpcaa.Ja
