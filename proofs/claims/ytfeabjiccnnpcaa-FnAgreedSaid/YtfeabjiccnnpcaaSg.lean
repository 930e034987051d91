import Derived.Test.YtfeabjiccnnpcaaSf
set_option linter.unusedVariables false
set_option linter.unusedSimpArgs false
namespace Go.Proofs.Ytfeabjiccnnpcaa.Ca
open Go.RowKit Go.Proofs.YtfeabjiccnnpcaaW.PrintWords Go.Proofs.YtfeabjiccnnpcaaW.PrintLast Go.Proofs.Ytfeabjiccnnpcaa.Ba

theorem validP_false_len {p : Proto} {k : Nat} (hk : k < 5) (h : (p.tab k).length ≠ 4) : validP p = false := by
  cases e : validP p with
  | false => rfl
  | true => exact absurd ((validP_iff p).1 e k hk).1 h
theorem validP_false_at {p : Proto} {k q : Nat} (hk : k < 5) (hq : q < 4) (h : okAt k q (rl (p.tab k) q) = false) : validP p = false := by
  cases e : validP p with
  | false => rfl
  | true => rw [((validP_iff p).1 e k hk).2 q hq] at h; cases h

set_option maxHeartbeats 8000000 in
set_option maxRecDepth 100000 in
theorem l10Is (h : Nat) (p : Proto) (w : World) (hp : ProtoB w h p) : Calls Try.prog 122 #[.pointer (some ⟨h, 0, none⟩)] w fun e w' => e = .returned (.bool (validP p)) ∧ Below w.heap.size w w' := by
  have HP := Lib.hid hp
  clear hp
  go_enter Try.func122, Try.ntmps122
  go_wp2_with fail
  refine (l10Tables h p _ HP.out).mono ?_
  rintro e w1 ⟨rfl, hb1, hl1, ht⟩
  have HB1 := Lib.hid hb1
  have HT := Lib.hid ht
  have HL1 := Lib.hid hl1
  obtain ⟨g, hg⟩ : ∃ g, w.heap.size = g := ⟨_, rfl⟩
  rw [hg] at HT ⊢
  have HG := Lib.hid hg
  clear hb1 ht hl1 hg
  go_wp2_with fail
  go_loopw [2, 4, 5, 6] (fun r i j x wr => ∃ k : Nat, k ≤ 5 ∧ i = .int .i64 k ∧ r = .bool false ∧ Hid (∀ j, j < k → (p.tab j).length = 4 ∧ ∀ q : Nat, q < 4 → okAt j q (rl (p.tab j) q) = true) ∧ Hid (Below w1.heap.size w1 wr)) (fun _ i _ _ _ => 5 - (intOf i).toNat)
  case atStart => exact ⟨0, Nat.zero_le _, rfl, rfl, Lib.hid (fun j hj => absurd hj (by omega)), Lib.hid (Below.refl _ _)⟩
  case round =>
    obtain ⟨k, hk, rfl, rfl, HK, HBr⟩ := hrel
    by_cases hlt : k < 5
    · obtain ⟨A, c, hc0, hle, hC⟩ := HT.out k hlt
      obtain ⟨t, ht⟩ : ∃ t, p.tab k = t := ⟨_, rfl⟩
      rw [ht] at hc0 hle hC
      have hcr := cell_old HBr.out hc0
      have HC0 := Lib.hid hc0
      have HC := Lib.hid hC
      have Ht := Lib.hid ht
      have hmx := C_max hC
      clear hC ht hle hc0
      by_cases h4 : t.length = 4
      · have H4 := Lib.hid h4
        rw [h4] at hcr HC0 HC
        clear hmx h4
        have bk5 : decide ((k : Int) < 5) = true := by rw [decide_eq_true_eq]; omega
        go_wp2_with fail
        go_loopw [2, 5, 6] (fun r i x wq => ∃ q : Nat, q ≤ 4 ∧ i = .int .i64 q ∧ r = .bool false ∧ Hid (∀ j, j < q → okAt k j (rl (p.tab k) j) = true) ∧ Hid (Below w1.heap.size w1 wq)) (fun _ i _ _ => 4 - (intOf i).toNat)
        case atStart => exact ⟨0, Nat.zero_le _, rfl, rfl, Lib.hid (fun j hj => absurd hj (by omega)), HBr⟩
        case round =>
          clear hcr HBr
          obtain ⟨q, hq4, rfl, rfl, HO, HBr⟩ := hrel
          have hcr := cell_old HBr.out HC0.out
          by_cases hq : q < 4
          · obtain ⟨ad, rfl, r0, r1, r2⟩ := C_ruleN (Kd.C_below HC.out HBr.out) q (by rw [H4.out]; exact hq) H4.out.symm
            obtain ⟨⟨rn, rs, rb⟩, hr⟩ : ∃ r, t[q]'(by rw [H4.out]; exact hq) = r := ⟨_, rfl⟩
            rw [hr] at r0 r1 r2
            have HRL : Hid (rl (p.tab k) (q : Int) = ⟨rn, rs, rb⟩) := Lib.hid (by rw [Ht.out, ← hr]; simp [rl, H4.out, hq])
            clear hr
            cases hc1 : isCp rn with
            | false =>
              have HC1 := Lib.hid hc1
              clear hc1
              have HF : Hid (validP p = false) := Lib.hid (validP_false_at hlt hq (by rw [HRL.out]; simp [okAt, HC1.out, HC1.out]))
              go_wp2_with (first | (go_at_call 166; refine (l10Copy _ _).mono ?_; rintro e w3 ⟨rfl, rfl⟩; first | rw [HC1.out] | rw [HC2.out]))
              go_ret
              exact ⟨ret_bool HF.out.symm, HB1.out.trans ((HBr.out.alloc HBr.out.size _).mono (by have := HL1.out; omega))⟩
            | true =>
              have HC1 := Lib.hid hc1
              clear hc1
              cases hc2 : isCp rs with
              | false =>
                have HC2 := Lib.hid hc2
                clear hc2
                have HF : Hid (validP p = false) := Lib.hid (validP_false_at hlt hq (by rw [HRL.out]; simp [okAt, HC1.out, HC2.out, HC2.out]))
                go_wp2_with (first | (go_at_call 166; refine (l10Copy _ _).mono ?_; rintro e w3 ⟨rfl, rfl⟩; first | rw [HC1.out] | rw [HC2.out]))
                go_ret
                exact ⟨ret_bool HF.out.symm, HB1.out.trans ((HBr.out.alloc HBr.out.size _).mono (by have := HL1.out; omega))⟩
              | true =>
                have HC2 := Lib.hid hc2
                clear hc2
                have h5 : k = 0 ∨ k = 1 ∨ k = 2 ∨ 3 ≤ k := by omega
                rcases h5 with hk0 | hk1 | hk2 | hk3
                · by_cases hn : rn = 0
                  · subst hn
                    have bk0 : ((k : Int) == 0) = true := by simp [hk0]
                    have bk2 : ((k : Int) == 2) = false := by simp [hk0]
                    have bg2 : decide (2 ≤ (k : Int)) = false := by simp [hk0]
                    have HF : Hid (validP p = false) := Lib.hid (validP_false_at hlt hq (by rw [HRL.out]; simp [okAt, HC1.out, HC2.out, hk0]))
                    clear hk0
                    go_wp2_with (first | (go_at_call 166; refine (l10Copy _ _).mono ?_; rintro e w3 ⟨rfl, rfl⟩; first | rw [HC1.out] | rw [HC2.out]))
                    go_ret
                    exact ⟨ret_bool HF.out.symm, HB1.out.trans ((HBr.out.alloc HBr.out.size _).mono (by have := HL1.out; omega))⟩
                  · by_cases hs : rs = 0
                    · subst hs
                      have bk0 : ((k : Int) == 0) = true := by simp [hk0]
                      have bk2 : ((k : Int) == 2) = false := by simp [hk0]
                      have bg2 : decide (2 ≤ (k : Int)) = false := by simp [hk0]
                      have bn0 : (rn == 0) = false := by rw [beq_eq_false_iff_ne]; exact hn
                      have bn1 : (rn != 0) = true := by rw [bne_iff_ne]; exact hn
                      have HF : Hid (validP p = false) := Lib.hid (validP_false_at hlt hq (by rw [HRL.out]; simp [okAt, HC1.out, HC2.out, hk0]))
                      clear hk0 hn
                      go_wp2_with (first | (go_at_call 166; refine (l10Copy _ _).mono ?_; rintro e w3 ⟨rfl, rfl⟩; first | rw [HC1.out] | rw [HC2.out]))
                      go_ret
                      exact ⟨ret_bool HF.out.symm, HB1.out.trans ((HBr.out.alloc HBr.out.size _).mono (by have := HL1.out; omega))⟩
                    ·
                      have bk0 : ((k : Int) == 0) = true := by simp [hk0]
                      have bk2 : ((k : Int) == 2) = false := by simp [hk0]
                      have bg2 : decide (2 ≤ (k : Int)) = false := by simp [hk0]
                      have bn0 : (rn == 0) = false := by rw [beq_eq_false_iff_ne]; exact hn
                      have bn1 : (rn != 0) = true := by rw [bne_iff_ne]; exact hn
                      have bs0 : (rs == 0) = false := by rw [beq_eq_false_iff_ne]; exact hs
                      have HF : Hid (okAt k q (rl (p.tab k) q) = true) := Lib.hid (by rw [HRL.out]; simp [okAt, HC1.out, HC2.out, hk0, hn, hs])
                      clear hk0 hn hs
                      go_wp2_with (first | (go_at_call 166; refine (l10Copy _ _).mono ?_; rintro e w3 ⟨rfl, rfl⟩; first | rw [HC1.out] | rw [HC2.out]))
                      exact ⟨⟨q + 1, by omega, by go_num, rfl, Lib.hid (fun j hj => by rcases Nat.lt_succ_iff_lt_or_eq.1 hj with h | h; exact HO.out j h; subst h; exact HF.out), Lib.hid (HBr.out.alloc HBr.out.size _)⟩, by simp [intOf]; omega⟩
                ·
                  have bk0 : ((k : Int) == 0) = false := by simp [hk1]
                  have bk2 : ((k : Int) == 2) = false := by simp [hk1]
                  have bg2 : decide (2 ≤ (k : Int)) = false := by simp [hk1]
                  have HF : Hid (okAt k q (rl (p.tab k) q) = true) := Lib.hid (by rw [HRL.out]; simp [okAt, HC1.out, HC2.out, hk1])
                  clear hk1
                  go_wp2_with (first | (go_at_call 166; refine (l10Copy _ _).mono ?_; rintro e w3 ⟨rfl, rfl⟩; first | rw [HC1.out] | rw [HC2.out]))
                  exact ⟨⟨q + 1, by omega, by go_num, rfl, Lib.hid (fun j hj => by rcases Nat.lt_succ_iff_lt_or_eq.1 hj with h | h; exact HO.out j h; subst h; exact HF.out), Lib.hid (HBr.out.alloc HBr.out.size _)⟩, by simp [intOf]; omega⟩
                · by_cases hn : rn = 0
                  · subst hn
                    by_cases hq0 : q = 0
                    · cases rb with
                      | true =>
                        have bk0 : ((k : Int) == 0) = false := by simp [hk2]
                        have bk2 : ((k : Int) == 2) = true := by simp [hk2]
                        have bg2 : decide (2 ≤ (k : Int)) = true := by simp [hk2]
                        have bq : ((q : Int) == 0) = true := by simp [hq0]
                        have HF : Hid (validP p = false) := Lib.hid (validP_false_at hlt hq (by rw [HRL.out]; simp [okAt, HC1.out, HC2.out, hk2, hq0]))
                        clear hk2 hq0
                        go_wp2_with (first | (go_at_call 166; refine (l10Copy _ _).mono ?_; rintro e w3 ⟨rfl, rfl⟩; first | rw [HC1.out] | rw [HC2.out]))
                        go_ret
                        exact ⟨ret_bool HF.out.symm, HB1.out.trans ((HBr.out.alloc HBr.out.size _).mono (by have := HL1.out; omega))⟩
                      | false =>
                        have bk0 : ((k : Int) == 0) = false := by simp [hk2]
                        have bk2 : ((k : Int) == 2) = true := by simp [hk2]
                        have bg2 : decide (2 ≤ (k : Int)) = true := by simp [hk2]
                        have bq : ((q : Int) == 0) = true := by simp [hq0]
                        have HF : Hid (okAt k q (rl (p.tab k) q) = true) := Lib.hid (by rw [HRL.out]; simp [okAt, HC1.out, HC2.out, hk2, hq0])
                        clear hk2 hq0
                        go_wp2_with (first | (go_at_call 166; refine (l10Copy _ _).mono ?_; rintro e w3 ⟨rfl, rfl⟩; first | rw [HC1.out] | rw [HC2.out]))
                        exact ⟨⟨q + 1, by omega, by go_num, rfl, Lib.hid (fun j hj => by rcases Nat.lt_succ_iff_lt_or_eq.1 hj with h | h; exact HO.out j h; subst h; exact HF.out), Lib.hid (HBr.out.alloc HBr.out.size _)⟩, by simp [intOf]; omega⟩
                    ·
                      have bk0 : ((k : Int) == 0) = false := by simp [hk2]
                      have bk2 : ((k : Int) == 2) = true := by simp [hk2]
                      have bg2 : decide (2 ≤ (k : Int)) = true := by simp [hk2]
                      have bq : ((q : Int) == 0) = false := by rw [beq_eq_false_iff_ne]; omega
                      have HF : Hid (okAt k q (rl (p.tab k) q) = true) := Lib.hid (by rw [HRL.out]; simp [okAt, HC1.out, HC2.out, hk2, hq0])
                      clear hk2 hq0
                      go_wp2_with (first | (go_at_call 166; refine (l10Copy _ _).mono ?_; rintro e w3 ⟨rfl, rfl⟩; first | rw [HC1.out] | rw [HC2.out]))
                      exact ⟨⟨q + 1, by omega, by go_num, rfl, Lib.hid (fun j hj => by rcases Nat.lt_succ_iff_lt_or_eq.1 hj with h | h; exact HO.out j h; subst h; exact HF.out), Lib.hid (HBr.out.alloc HBr.out.size _)⟩, by simp [intOf]; omega⟩
                  ·
                    have bk0 : ((k : Int) == 0) = false := by simp [hk2]
                    have bk2 : ((k : Int) == 2) = true := by simp [hk2]
                    have bg2 : decide (2 ≤ (k : Int)) = true := by simp [hk2]
                    have bn0 : (rn == 0) = false := by rw [beq_eq_false_iff_ne]; exact hn
                    have bn1 : (rn != 0) = true := by rw [bne_iff_ne]; exact hn
                    have HF : Hid (validP p = false) := Lib.hid (validP_false_at hlt hq (by rw [HRL.out]; simp [okAt, HC1.out, HC2.out, hk2, hn]))
                    clear hk2 hn
                    go_wp2_with (first | (go_at_call 166; refine (l10Copy _ _).mono ?_; rintro e w3 ⟨rfl, rfl⟩; first | rw [HC1.out] | rw [HC2.out]))
                    go_ret
                    exact ⟨ret_bool HF.out.symm, HB1.out.trans ((HBr.out.alloc HBr.out.size _).mono (by have := HL1.out; omega))⟩
                · by_cases hq0 : q = 0
                  · by_cases hn : rn = 0
                    · subst hn
                      cases rb with
                      | true =>
                        have bk0 : ((k : Int) == 0) = false := by rw [beq_eq_false_iff_ne]; omega
                        have bk2 : ((k : Int) == 2) = false := by rw [beq_eq_false_iff_ne]; omega
                        have bg2 : decide (2 ≤ (k : Int)) = true := by rw [decide_eq_true_eq]; omega
                        have bq : ((q : Int) == 0) = true := by simp [hq0]
                        have HF : Hid (validP p = false) := Lib.hid (validP_false_at hlt hq (by rw [HRL.out]; simp [okAt, HC1.out, HC2.out, hk3, show k ≠ 0 by omega, show k ≠ 2 by omega, show 2 ≤ k by omega, hq0]))
                        clear hk3 hq0
                        go_wp2_with (first | (go_at_call 166; refine (l10Copy _ _).mono ?_; rintro e w3 ⟨rfl, rfl⟩; first | rw [HC1.out] | rw [HC2.out]))
                        go_ret
                        exact ⟨ret_bool HF.out.symm, HB1.out.trans ((HBr.out.alloc HBr.out.size _).mono (by have := HL1.out; omega))⟩
                      | false =>
                        have bk0 : ((k : Int) == 0) = false := by rw [beq_eq_false_iff_ne]; omega
                        have bk2 : ((k : Int) == 2) = false := by rw [beq_eq_false_iff_ne]; omega
                        have bg2 : decide (2 ≤ (k : Int)) = true := by rw [decide_eq_true_eq]; omega
                        have bq : ((q : Int) == 0) = true := by simp [hq0]
                        have HF : Hid (okAt k q (rl (p.tab k) q) = true) := Lib.hid (by rw [HRL.out]; simp [okAt, HC1.out, HC2.out, hk3, show k ≠ 0 by omega, show k ≠ 2 by omega, show 2 ≤ k by omega, hq0])
                        clear hk3 hq0
                        go_wp2_with (first | (go_at_call 166; refine (l10Copy _ _).mono ?_; rintro e w3 ⟨rfl, rfl⟩; first | rw [HC1.out] | rw [HC2.out]))
                        exact ⟨⟨q + 1, by omega, by go_num, rfl, Lib.hid (fun j hj => by rcases Nat.lt_succ_iff_lt_or_eq.1 hj with h | h; exact HO.out j h; subst h; exact HF.out), Lib.hid (HBr.out.alloc HBr.out.size _)⟩, by simp [intOf]; omega⟩
                    ·
                      have bk0 : ((k : Int) == 0) = false := by rw [beq_eq_false_iff_ne]; omega
                      have bk2 : ((k : Int) == 2) = false := by rw [beq_eq_false_iff_ne]; omega
                      have bg2 : decide (2 ≤ (k : Int)) = true := by rw [decide_eq_true_eq]; omega
                      have bq : ((q : Int) == 0) = true := by simp [hq0]
                      have bn0 : (rn == 0) = false := by rw [beq_eq_false_iff_ne]; exact hn
                      have bn1 : (rn != 0) = true := by rw [bne_iff_ne]; exact hn
                      have HF : Hid (validP p = false) := Lib.hid (validP_false_at hlt hq (by rw [HRL.out]; simp [okAt, HC1.out, HC2.out, hk3, show k ≠ 0 by omega, show k ≠ 2 by omega, show 2 ≤ k by omega, hq0, hn]))
                      clear hk3 hq0 hn
                      go_wp2_with (first | (go_at_call 166; refine (l10Copy _ _).mono ?_; rintro e w3 ⟨rfl, rfl⟩; first | rw [HC1.out] | rw [HC2.out]))
                      go_ret
                      exact ⟨ret_bool HF.out.symm, HB1.out.trans ((HBr.out.alloc HBr.out.size _).mono (by have := HL1.out; omega))⟩
                  ·
                    have bk0 : ((k : Int) == 0) = false := by rw [beq_eq_false_iff_ne]; omega
                    have bk2 : ((k : Int) == 2) = false := by rw [beq_eq_false_iff_ne]; omega
                    have bg2 : decide (2 ≤ (k : Int)) = true := by rw [decide_eq_true_eq]; omega
                    have bq : ((q : Int) == 0) = false := by rw [beq_eq_false_iff_ne]; omega
                    have HF : Hid (okAt k q (rl (p.tab k) q) = true) := Lib.hid (by rw [HRL.out]; simp [okAt, HC1.out, HC2.out, hk3, show k ≠ 0 by omega, show k ≠ 2 by omega, show 2 ≤ k by omega, hq0])
                    clear hk3 hq0
                    go_wp2_with (first | (go_at_call 166; refine (l10Copy _ _).mono ?_; rintro e w3 ⟨rfl, rfl⟩; first | rw [HC1.out] | rw [HC2.out]))
                    exact ⟨⟨q + 1, by omega, by go_num, rfl, Lib.hid (fun j hj => by rcases Nat.lt_succ_iff_lt_or_eq.1 hj with h | h; exact HO.out j h; subst h; exact HF.out), Lib.hid (HBr.out.alloc HBr.out.size _)⟩, by simp [intOf]; omega⟩
          · obtain rfl : q = 4 := by omega
            have HF : Hid (∀ j, j < k + 1 → (p.tab j).length = 4 ∧ ∀ q : Nat, q < 4 → okAt j q (rl (p.tab j) q) = true) := Lib.hid (fun j hj => by
              rcases Nat.lt_succ_iff_lt_or_eq.1 hj with h | h
              · exact HK.out j h
              · subst h; exact ⟨by rw [Ht.out]; exact H4.out, HO.out⟩)
            go_wp2_with fail
            exact ⟨⟨k + 1, by omega, by go_num, rfl, HF, HBr⟩, by simp [intOf]; omega⟩
      · have b1 : ((t.length : Int) == 4) = false := by rw [beq_eq_false_iff_ne]; omega
        have b2 : ((t.length : Int) != 4) = true := by rw [bne_iff_ne]; omega
        have HF : Hid (validP p = false) := Lib.hid (validP_false_len hlt (by rw [Ht.out]; exact h4))
        clear h4
        go_wp2_with fail
        go_ret
        exact ⟨ret_bool HF.out.symm, HB1.out.trans (HBr.out.mono (by have := HL1.out; omega))⟩
    · obtain rfl : k = 5 := by omega
      have HF : Hid (validP p = true) := Lib.hid ((validP_iff p).2 (fun j hj => HK.out j hj))
      go_wp2_with fail
      go_ret
      exact ⟨ret_bool HF.out.symm, HB1.out.trans (HBr.out.mono (by have := HL1.out; omega))⟩
end Go.Proofs.Ytfeabjiccnnpcaa.Ca
