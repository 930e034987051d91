import Derived.Test.YtfeabjiccnnpcaaJb
import Derived.Test.YtfeabjiccnnpcaaWLast
set_option linter.unusedVariables false
set_option linter.unusedSimpArgs false
namespace Go.Proofs.Ytfeabjiccnnpcaa.Ja
open Go.RowKit Go.Proofs.YtfeabjiccnnpcaaW.PrintWords Go.Proofs.YtfeabjiccnnpcaaW.PrintLast Go.Proofs.Ytfeabjiccnnpcaa.Ba

def sizes (ls : List ByteArray) : Nat := (ls.map (·.size)).sum
theorem sizes_cons (x : ByteArray) (ls : List ByteArray) : sizes (x :: ls) = x.size + sizes ls := by simp [sizes]
theorem tot_sizes (ls : List ByteArray) : tot ls = sizes ls + 4 * ls.length := by
  induction ls with
  | nil => rfl
  | cons x r ih => rw [sizes_cons]; simp only [tot, List.map_cons, List.sum_cons, List.length_cons] at ih ⊢; omega
/-- what szStringS comes to -/
def left (n : Int) (ls : List ByteArray) : Int := if n - ls.length - sizes ls < 0 then -1 else n - ls.length - sizes ls

set_option maxHeartbeats 1000000 in
set_option maxRecDepth 100000 in
theorem szStringS (A : Option Addr) (c : Nat) (ls : List ByteArray) (n : Int) (w : World) (hr : Kd.C Kd.string w A ls.length ls) (hc : ls.length ≤ c) (hc2 : ls.length ≤ 9223372036854775807) (h0 : 0 ≤ n) (h1 : n ≤ 140737488355328) (hb : ∀ x ∈ ls, x.size ≤ 9223372036854775807) :
    Calls Try.prog 15 #[.slice A ls.length c, .int .i64 n] w fun e w' => e = .returned (.int .i64 (left n ls)) ∧ w' = w := by
  have HR := Lib.hid hr
  clear hr
  by_cases hneg : n - (ls.length : Int) < 0
  · have HF : Hid (left n ls = -1) := Lib.hid (by unfold left; rw [if_pos (by omega)])
    go_enter Try.func15, Try.ntmps15
    go_wp2
    go_ret
    exact ⟨ret_int HF.out.symm, rfl⟩
  · go_enter Try.func15, Try.ntmps15
    go_wp2
    go_loop [1, 5] (fun l i => ∃ (k : Nat) (m : Int), k ≤ ls.length ∧ i = .int .i64 k ∧ l = .int .i64 m ∧ 0 ≤ m ∧ m ≤ 140737488355328 ∧ Hid (m - sizes (ls.drop k) = n - ls.length - sizes ls)) (fun _ i => ls.length - (intOf i).toNat)
    case atStart => exact ⟨0, _, Nat.zero_le _, rfl, rfl, by omega, by omega, Lib.hid rfl⟩
    case round =>
      obtain ⟨k, m, hk, rfl, rfl, hm0, hm1, HJ⟩ := hrel
      by_cases hlt : k < ls.length
      · obtain ⟨ad, rfl, hcell⟩ := C_str HR.out k hlt rfl
        have hd := drop_at ls k hlt
        have hxb := hb _ (List.getElem_mem hlt)
        obtain ⟨x, hx⟩ : ∃ x, ls[k] = x := ⟨_, rfl⟩
        rw [hx] at hcell hd hxb
        have HJ1 : Hid (m - x.size - sizes (ls.drop (k + 1)) = n - ls.length - sizes ls) := Lib.hid (by have := HJ.out; rw [hd, sizes_cons] at this; omega)
        clear hx hd HJ
        by_cases hneg2 : m - (x.size : Int) < 0
        · have HF : Hid (left n ls = -1) := Lib.hid (by have := HJ1.out; unfold left; rw [if_pos (by omega)])
          go_wp2
          go_ret
          exact ⟨ret_int HF.out.symm, rfl⟩
        · go_wp2
          exact ⟨⟨k + 1, _, by omega, by go_num, rfl, by omega, by omega, HJ1⟩, by simp [intOf]; omega⟩
      · have he : ls.drop k = [] := List.drop_of_length_le (by omega)
        have HF : Hid (left n ls = m) := Lib.hid (by have := HJ.out; rw [he] at this; have e0 : sizes ([] : List ByteArray) = 0 := rfl; rw [e0] at this; unfold left; rw [if_neg (by omega)]; omega)
        clear he HJ
        go_wp2
        go_ret
        exact ⟨ret_int HF.out.symm, rfl⟩

theorem set_step {α : Type} (ls : List α) (k : Nat) (h : k < ls.length) (z : α) : (ls.take k ++ List.replicate (ls.length - k) z).set k ls[k] = ls.take (k + 1) ++ List.replicate (ls.length - (k + 1)) z := by
  have e : ls.length - k = (ls.length - (k + 1)) + 1 := by omega
  rw [e, List.replicate_succ, List.set_append, if_neg (by simp; omega)]
  have e2 : k - (ls.take k).length = 0 := by simp; omega
  rw [e2, List.set_cons_zero, List.take_succ_eq_append_getElem h, List.append_assoc]; rfl
theorem info9 : (Try.prog.info? 9).map (fun i => (i.zero, i.size, i.bytes)) = some (some (.string ⟨#[]⟩), 1, 16) := by kernel_rfl

set_option maxHeartbeats 1000000 in
set_option maxRecDepth 100000 in
theorem toStringS (A : Option Addr) (c : Nat) (ls : List ByteArray) (w : World) (hr : Kd.C Kd.string w A ls.length ls) (hc : ls.length ≤ c) (hc2 : ls.length ≤ 1099511627776) :
    Calls Try.prog 17 #[.slice A ls.length c] w fun e w' => ∃ v : Value, e = .returned v ∧ Kd.R Kd.string 9 w' w.heap.size (fun _ => True) v ls ∧ Below w.heap.size w w' := by
  have HR := Lib.hid hr
  clear hr
  go_enter Try.func17, Try.ntmps17
  go_wp2_with ((with_reducible refine gate_dst (N := 7) rfl ?_); refine Kd.R_make Kd.string _ 9 rfl (N := 7) rfl 22 _ _ rfl (ls.length : Int) rfl rfl Try.underlying22 (.string ⟨#[]⟩) 16 info9 rfl (by decide) (by omega) (⟨#[]⟩ : ByteArray) (ok := fun _ => True) (okp := fun _ => True) rfl (fun _ hk => hk) trivial (by omega) (by omega) (Below.refl _ _) (Nat.le_refl _) ?_)
  intro v1 w1 hR1 hB1 hG1 b0 hat hat2
  clear hat2 hat hG1
  have HR1 := Lib.hid hR1
  clear hR1
  go_wp2
  go_loopw [4] (fun i wr => ∃ (k : Nat), k ≤ ls.length ∧ i = .int .i64 k ∧ Hid (Kd.R Kd.string 9 wr w.heap.size (fun _ => True) v1 (ls.take k ++ List.replicate (ls.length - k) ⟨#[]⟩)) ∧ Below w.heap.size w wr) (fun i _ => ls.length - (intOf i).toNat)
  case atStart => exact ⟨0, Nat.zero_le _, rfl, by simpa using HR1, hB1⟩
  case round =>
    clear HR1
    obtain ⟨k, hk, rfl, HK, hB⟩ := hrel
    by_cases hlt : k < ls.length
    · obtain ⟨ad, rfl, hcell0⟩ := C_str HR.out k hlt rfl
      have hcell := cell_old hB hcell0
      clear hcell0
      have hset : (ls.take k ++ List.replicate (ls.length - k) (⟨#[]⟩ : ByteArray)).set k ls[k] = ls.take (k + 1) ++ List.replicate (ls.length - (k + 1)) ⟨#[]⟩ := set_step ls k hlt _
      have hlen : (ls.take k ++ List.replicate (ls.length - k) (⟨#[]⟩ : ByteArray)).length = ls.length := by simp; omega
      generalize ls.take k ++ List.replicate (ls.length - k) (⟨#[]⟩ : ByteArray) = zs at *
      obtain ⟨zs', hzs⟩ : ∃ z, z = ls.take (k + 1) ++ List.replicate (ls.length - (k + 1)) (⟨#[]⟩ : ByteArray) := ⟨_, rfl⟩
      rw [← hzs] at hset
      have Hzs := Lib.hid hzs
      clear hzs
      obtain ⟨g, cap, rfl, hg1, hg2, cells, hcs⟩ := Kd.R_form HK.out (by omega)
      have hzk : k < zs.length := by omega
      have hP := Kd.R_putg HK.out (k : Int) ls[k]
      have hcel := (Kd.R_celln (⟨#[]⟩ : ByteArray) HK.out (k : Int) (by omega) (by omega))
      simp only [Int.toNat_natCast] at hP hcel
      rw [hset] at hP
      obtain ⟨x, hx⟩ : ∃ x, ls[k] = x := ⟨_, rfl⟩
      rw [hx] at hcell hP
      clear hx hset
      have HP := Lib.hid hP
      obtain ⟨hcel1, hcel2⟩ := hcel
      clear hP hcs
      have HLen := Lib.hid hlen
      clear hlen
      go_wp2
      exact ⟨⟨k + 1, by omega, by go_num, Lib.hid (by rw [← Hzs.out]; exact HP.out.1), hB.setCell hg1 _⟩, by simp [intOf]; omega⟩
    · have he : ls.take k ++ List.replicate (ls.length - k) (⟨#[]⟩ : ByteArray) = ls := by rw [List.take_of_length_le (by omega), show ls.length - k = 0 from by omega]; simp
      rw [he] at HK
      clear he
      go_wp2
      go_ret
      exact ⟨_, rfl, HK.out, hB⟩

set_option maxHeartbeats 1000000 in
set_option maxRecDepth 100000 in
theorem eqStringS (A : Option Addr) (c : Nat) (B : Option Addr) (c' : Nat) (ls : List ByteArray) (w : World) (hr : Kd.C Kd.string w A ls.length ls) (hr' : Kd.C Kd.string w B ls.length ls) (hc2 : ls.length ≤ 1099511627776) :
    Calls Try.prog 19 #[.slice A ls.length c, .slice B ls.length c'] w fun e w' => e = .returned (.bool true) ∧ Drawn0 w w' := by
  have HR := Lib.hid hr
  have HR' := Lib.hid hr'
  clear hr hr'
  go_enter Try.func19, Try.ntmps19
  go_wp2
  go_loopw [5] (fun i wr => ∃ (k : Nat), k ≤ ls.length ∧ i = .int .i64 k ∧ Hid (Drawn0 w wr)) (fun i _ => ls.length - (intOf i).toNat)
  case atStart => exact ⟨0, Nat.zero_le _, rfl, Lib.hid (Drawn0.refl _)⟩
  case round =>
    obtain ⟨k, hk, rfl, HD⟩ := hrel
    by_cases hlt : k < ls.length
    · obtain ⟨ad, rfl, hcell0⟩ := C_str HR.out k hlt rfl
      obtain ⟨ad', rfl, hcell0'⟩ := C_str HR'.out k hlt rfl
      have hcell := cell_old HD.out.below hcell0
      have hcell' := cell_old HD.out.below hcell0'
      clear hcell0 hcell0'
      obtain ⟨x, hx⟩ : ∃ x, ls[k] = x := ⟨_, rfl⟩
      rw [hx] at hcell hcell'
      clear hx
      go_wp2
      go_quiet (fail)
      go_wp2
      exact ⟨⟨k + 1, by omega, by go_num, Lib.hid (HD.out.step _)⟩, by simp [intOf]; omega⟩
    · go_wp2
      go_ret
      exact ⟨rfl, HD.out⟩

/-- no line's end among the first bytes -/
def noNl (l : ByteArray) (j : Nat) : Prop := ∀ i, i < j → ∀ h : i < l.size, (l[i] == 10) = false
theorem ten_t (c : UInt8) (h : (c == 10) = true) : ((c.toNat : Int) == 10) = true := by
  have : c = 10 := by simpa using h
  subst this; rfl
theorem ten_f (c : UInt8) (h : (c == 10) = false) : ((c.toNat : Int) == 10) = false := by
  have h1 : ¬ c = 10 := by simpa using h
  rw [beq_eq_false_iff_ne]
  intro h2
  exact h1 (UInt8.toNat_inj.1 (by simpa using (by omega : c.toNat = 10)))
theorem nl_pos (x : ByteArray) (q : Nat) (hq : q < x.size) (h : (x[q] == 10) = true) : nl x = true := by
  unfold nl
  rw [decide_eq_true_eq]
  have hq' : q < x.data.toList.length := by rw [data_length]; exact hq
  have e : x.data.toList[q]? = some 10 := by rw [List.getElem?_eq_getElem hq']; exact congrArg some (show x[q] = 10 by simpa using h)
  have h1 := Lib.indexByte_ge x.data.toList 10
  by_cases hi : Lib.indexByte x.data.toList 10 = -1
  · exact absurd e (Lib.indexByte_none hi q)
  · omega
theorem nl_neg (x : ByteArray) (h : noNl x x.size) : ¬ nl x = true := by
  unfold nl
  rw [decide_eq_true_eq]
  intro h0
  obtain ⟨o, ho⟩ := Int.eq_ofNat_of_zero_le h0
  have h1 := (Lib.indexByte_some ho).1
  obtain ⟨h2, h3⟩ := List.getElem?_eq_some_iff.1 h1
  have h4 : o < x.size := by rw [← data_length]; exact h2
  have h5 := h o h4 h4
  have h6 : x[o] = 10 := h3
  rw [h6] at h5
  exact absurd h5 (by decide)

set_option maxHeartbeats 2000000 in
set_option maxRecDepth 100000 in
theorem specJournalOf (A : Option Addr) (c : Nat) (ls : List ByteArray) (w : World) (hr : Kd.C Kd.string w A ls.length ls) (hc : ls.length ≤ c) (M : Nat) (hM : M + 100 ≤ 140737488355328) (ht : tot ls ≤ M) :
    Calls Try.prog 16 #[.slice A ls.length c] w fun e w' => e = .returned (.tuple #[.string (jres ls).1, .bool (jres ls).2]) ∧ Below w.heap.size w w' := by
  have HR := Lib.hid hr
  have hmx := C_max hr
  clear hr
  go_enter Try.func16, Try.ntmps16
  go_wp2
  go_loop [2, 3, 4, 5, 6] (fun r1 r2 t i _ => ∃ (k m : Nat), k ≤ ls.length ∧ i = .int .i64 k ∧ r1 = .string ⟨#[]⟩ ∧ r2 = .bool false ∧ t = .int .i64 m ∧ m ≤ 4000 ∧ Hid (m + tot (ls.drop k) ≤ M ∧ m + tot (ls.drop k) = tot ls ∧ good m (ls.drop k) = good 0 ls)) (fun _ _ _ i _ => ls.length - (intOf i).toNat)
  case atStart => exact ⟨0, 0, Nat.zero_le _, rfl, rfl, rfl, rfl, Nat.zero_le _, Lib.hid ⟨by show 0 + _ ≤ _; simpa using ht, by simp, rfl⟩⟩
  case round =>
    obtain ⟨k, m, hk, rfl, rfl, rfl, rfl, hm, HJ⟩ := hrel
    by_cases hlt : k < ls.length
    · obtain ⟨ad, rfl, hcell⟩ := C_str HR.out k hlt rfl
      have hd := drop_at ls k hlt
      obtain ⟨x, hx⟩ : ∃ x, ls[k] = x := ⟨_, rfl⟩
      rw [hx] at hcell hd
      have HJ1 : Hid (m + (x.size + 4 + tot (ls.drop (k + 1))) ≤ M ∧ m + (x.size + 4 + tot (ls.drop (k + 1))) = tot ls ∧ (if nl x = true then false else if 4000 < m + x.size + 4 then false else good (m + x.size + 4) (ls.drop (k + 1))) = good 0 ls) := by
        have := HJ.out
        rw [hd] at this
        exact Lib.hid ⟨by simp only [tot, List.map_cons, List.sum_cons] at this ⊢; exact this.1, by simp only [tot, List.map_cons, List.sum_cons] at this ⊢; exact this.2.1, this.2.2⟩
      have hx4 := HJ1.out.1
      clear hx hd HJ
      go_wp2
      go_loop [2, 3, 6] (fun r1 r2 j => ∃ (q : Nat), q ≤ x.size ∧ r1 = .string ⟨#[]⟩ ∧ r2 = .bool false ∧ j = .int .i64 q ∧ Hid (noNl x q)) (fun _ _ j => x.size - (intOf j).toNat)
      case atStart => exact ⟨0, Nat.zero_le _, rfl, rfl, rfl, Lib.hid (fun i hi => absurd hi (Nat.not_lt_zero _))⟩
      case round =>
        obtain ⟨q, hq, rfl, rfl, rfl, HN⟩ := hrel
        by_cases hlq : q < x.size
        · by_cases hten : (x[q] == 10) = true
          · have hF : good 0 ls = false := by have := HJ1.out.2.2; rw [if_pos (nl_pos x q hlq hten)] at this; exact this.symm
            have HF := Lib.hid hF
            clear hF
            have hten3 := ten_t _ hten
            clear hten
            go_wp2
            go_ret2
            exact ⟨by simp [jres, HF.out], Below.refl _ _⟩
          · have hten2 : (x[q] == 10) = false := by simpa using hten
            clear hten
            have Hten2 := Lib.hid hten2
            have hten3 := ten_f _ hten2
            clear hten2
            go_wp2
            exact ⟨⟨q + 1, by omega, rfl, rfl, by go_num, Lib.hid (fun i hi h => by
              rcases Nat.lt_or_ge i q with h' | h'
              · exact HN.out i h' h
              · obtain rfl : i = q := by omega
                exact Hten2.out)⟩, by simp [intOf]; omega⟩
        · have hn := nl_neg x (by obtain rfl : q = x.size := by omega
                                  exact HN.out)
          have HJ2 : Hid ((if 4000 < m + x.size + 4 then false else good (m + x.size + 4) (ls.drop (k + 1))) = good 0 ls) := by have := HJ1.out.2.2; rw [if_neg hn] at this; exact Lib.hid this
          clear hn HN
          by_cases hbig : 4000 < m + x.size + 4
          · have hF : good 0 ls = false := by have := HJ2.out; rw [if_pos hbig] at this; exact this.symm
            have HF := Lib.hid hF
            clear hF
            go_wp2
            go_ret2
            exact ⟨by simp [jres, HF.out], Below.refl _ _⟩
          · have hF := HJ2.out
            rw [if_neg hbig] at hF
            have HF := Lib.hid hF
            clear hF
            have hj := HJ1.out
            go_wp2
            exact ⟨⟨k + 1, m + x.size + 4, by omega, by go_num, rfl, rfl, by go_num, by omega, Lib.hid ⟨by omega, by omega, HF.out⟩⟩, by simp [intOf]; omega⟩
    · have he : ls.drop k = [] := List.drop_of_length_le (by omega)
      have hJ := HJ.out
      rw [he] at hJ
      have HF : Hid (m = tot ls ∧ true = good 0 ls) := Lib.hid ⟨hJ.2.1, hJ.2.2⟩
      clear hJ he HJ
      go_wp2_with (go_at_call 65; refine (l11Journal _ _ _ _ HR.out hc 4000 (by omega) (by have := HF.out.1; omega)).mono ?_; rintro e w1 ⟨rfl, hb1⟩)
      go_ret2
      exact ⟨by simp [jres, ← HF.out.2], hb1⟩
end Go.Proofs.Ytfeabjiccnnpcaa.Ja
