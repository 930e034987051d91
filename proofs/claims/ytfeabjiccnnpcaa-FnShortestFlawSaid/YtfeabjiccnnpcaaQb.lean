import Derived.Test.YtfeabjiccnnpcaaQa
import Derived.Test.YtfeabjiccnnpcaaSp
set_option linter.unusedVariables false
set_option linter.unusedSimpArgs false
namespace Go.Proofs.Ytfeabjiccnnpcaa.Ca
open Go.RowKit Go.Proofs.YtfeabjiccnnpcaaW.PrintWords Go.Proofs.YtfeabjiccnnpcaaW.PrintLast Go.Proofs.Ytfeabjiccnnpcaa.Ba Go.Proofs.Ytfeabjiccnnpcaa.Sa Go.Proofs.Ytfeabjiccnnpcaa.Bfs

set_option maxHeartbeats 4000000 in
set_option maxRecDepth 100000 in
theorem fnShortestFlaw (A B : Option Addr) (na nb ca cb : Nat) (us bs : List Int) (w : World) (hA : Bytes w A na us) (hB : Bytes w B nb bs) :
    Calls Try.prog 8 #[.slice A na ca, .slice B nb cb] w fun e w' => e = .returned (.bool true) ∧ Below w.heap.size w w' := by
  have hma := C_max hA.1
  have hmb := C_max hB.1
  have HA := Lib.hid hA
  have HB := Lib.hid hB
  clear hA hB
  cases hl : longB na nb with
  | true =>
    have HL := Lib.hid hl
    clear hl
    go_enter Try.func8, Try.ntmps8
    go_wp2_with fail
    refine (r8Long A B na nb ca cb _ hma hmb).mono ?_
    rintro e w1 ⟨rfl, rfl⟩
    rw [HL.out]
    go_wp2_with fail
    go_ret
    exact ⟨rfl, Below.refl _ _⟩
  | false =>
  have HL := Lib.hid hl
  clear hl
  go_enter Try.func8, Try.ntmps8
  go_wp2_with fail
  refine (r8Long A B na nb ca cb _ hma hmb).mono ?_
  rintro e w ⟨rfl, rfl⟩
  rw [HL.out]
  clear HL
  go_wp2_with fail
  refine (R8Protocol A na ca us _ HA.out).mono ?_
  rintro e w1 ⟨v, p, rfl, hv, hp, hb1⟩
  obtain ⟨AA, cc, rfl, hT⟩ := hv.tabs
  have HP := Lib.hid hp
  have HV := Lib.hid hv
  have HB1 := Lib.hid hb1
  clear hv hp hb1 hT
  go_wp2_with fail
  -- the protocol's box
  obtain ⟨w2, hw2⟩ : ∃ w2, w2 = w1.alloc (.cells #[.slice (AA 0) (p.tab 0).length (cc 0), .slice (AA 1) (p.tab 1).length (cc 1), .slice (AA 2) (p.tab 2).length (cc 2), .slice (AA 3) (p.tab 3).length (cc 3), .slice (AA 4) (p.tab 4).length (cc 4)] 50) := ⟨_, rfl⟩
  obtain ⟨g, hg⟩ : ∃ g, w1.heap.size = g := ⟨_, rfl⟩
  have hb12 : Below w1.heap.size w1 w2 := by rw [hw2]; exact (Below.refl _ _).alloc (Nat.le_refl _) _
  have hblk : w2.heap[g]? = some (.cells #[.slice (AA 0) (p.tab 0).length (cc 0), .slice (AA 1) (p.tab 1).length (cc 1), .slice (AA 2) (p.tab 2).length (cc 2), .slice (AA 3) (p.tab 3).length (cc 3), .slice (AA 4) (p.tab 4).length (cc 4)] 50 (0, 0)) := by rw [hw2, ← hg]; exact heap_alloc_new w1 _
  have HBLK := Lib.hid hblk
  have HV2 := Lib.hid (HV.out.below hb12)
  have HB2 := Lib.hid (below_tr HB1.out hb12)
  rw [← hw2]
  simp only [hg]
  have HGW : Hid (w.heap.size ≤ g) := Lib.hid (by have := HB1.out.size; omega)
  clear hw2 hg hb12 hblk HV HB1
  refine (r8At B nb cb bs 0 3 _ (HB.out.below HB2.out) (by omega) (by omega) (by omega)).mono ?_
  rintro e w2 ⟨n0, rfl, hn, rfl⟩
  obtain ⟨m, rfl⟩ := Int.eq_ofNat_of_zero_le hn.1
  have hm3 : m < 3 := by omega
  clear hn
  go_wp2_with fail
  obtain ⟨n, hn1⟩ : ∃ n : Nat, n = 1 + m := ⟨_, rfl⟩
  have hnn : 0 < n := by omega
  have hn3 : n ≤ 3 := by omega
  have hnm : (1 : Int) + (m : Int) = (n : Int) := by omega
  simp only [hnm]
  clear hnm hn1 hm3
  refine (R8Ops B nb cb bs n _ (HB.out.below HB2.out) (by omega) (by omega)).mono ?_
  rintro e w4 ⟨AO, co, ops, rfl, hops, hok, hlen, hb4⟩
  have HOK := Lib.hid hok
  have HB4 := Lib.hid (below_tr HB2.out hb4)
  have HOPS := Lib.hid hops
  have HV4 := Lib.hid (HV2.out.below hb4)
  have hblk4 := (hb4.block g (heap_lt HBLK.out)).trans HBLK.out
  have HBLK4 := Lib.hid hblk4
  obtain ⟨p0, p1, p2, p3, p4⟩ := box5 hblk4
  clear hops hok hb4 hblk4 HV2 HB2 HBLK
  go_wp2_with fail
  refine (RunSystem p _ n AO co ops _ HV4.out HP.out hnn hn3 HOPS.out HOK.out).mono ?_
  rintro e w5 ⟨sv, rfl, hsv, hb5⟩
  obtain ⟨E1, c1, E2, c2, rfl, _, hE1, _, hE2⟩ := hsv
  have hrng := runS_rng p (first n) ops
  obtain ⟨at', hat⟩ : ∃ at', (runS p (first n) 0 ops).2 = at' := ⟨_, rfl⟩
  rw [hat] at hrng
  simp only [hat]
  have HAT := Lib.hid hat
  clear hat
  obtain ⟨Ly, hLy⟩ : ∃ Ly, (runS p (first n) 0 ops).1.cs.length = Ly := ⟨_, rfl⟩
  obtain ⟨Ly2, hLy2⟩ : ∃ Ly, (runS p (first n) 0 ops).1.fs.length = Ly := ⟨_, rfl⟩
  obtain ⟨ym, hym⟩ : ∃ ym, (runS p (first n) 0 ops).1.m = ym := ⟨_, rfl⟩
  simp only [hLy, hLy2, hym]
  clear hLy hLy2 hym hE1 hE2
  have u0 : -1 ≤ at' := by omega
  have u1 : at' ≤ 40 := by omega
  have q1 : decide (at' < -1) = false := by simp; omega
  have q2 : decide ((ops.length : Int) ≤ at') = false := by simp; omega
  have hb46 : ∀ o, Below w4.heap.size w4 (w5.alloc o) := fun o => hb5.alloc hb5.size _
  have hblk6 : ∀ o, (w5.alloc o).heap[g]? = _ := fun o => ((hb46 o).block g (heap_lt HBLK4.out)).trans HBLK4.out
  have HBLK6 := Lib.hid hblk6
  have HV6 : Hid (∀ o, ProtoV (w5.alloc o) p _) := Lib.hid fun o => HV4.out.below (hb46 o)
  have HB6 : Hid (∀ o, Below w.heap.size w (w5.alloc o)) := Lib.hid fun o => below_tr HB4.out (hb46 o)
  have HR := Lib.hid hrng
  clear p0 p1 p2 p3 p4 hb46 hblk6 HBLK4 HV4 HB4 hrng hb5
  have l0 : ∀ o, (w5.alloc o).cell? ⟨g, 0, none⟩ = _ := fun o => (box5 (HBLK6.out o)).1
  have l1 : ∀ o, (w5.alloc o).cell? ⟨g, 1, none⟩ = _ := fun o => (box5 (HBLK6.out o)).2.1
  have l2 : ∀ o, (w5.alloc o).cell? ⟨g, 2, none⟩ = _ := fun o => (box5 (HBLK6.out o)).2.2.1
  have l3 : ∀ o, (w5.alloc o).cell? ⟨g, 3, none⟩ = _ := fun o => (box5 (HBLK6.out o)).2.2.2.1
  have l4 : ∀ o, (w5.alloc o).cell? ⟨g, 4, none⟩ = _ := fun o => (box5 (HBLK6.out o)).2.2.2.2
  go_wp2_with fail
  refine (ShortestFlaw p _ n _ (HV6.out _) HP.out hnn hn3).mono ?_
  rintro e w7 ⟨vf, i, rfl, hle, hf, hb7⟩
  obtain ⟨F, hF⟩ : ∃ F, (bfsS p n i).2 = F := ⟨_, rfl⟩
  rw [hF] at hf
  simp only [hF]
  have HF := Lib.hid hF
  have HLE := Lib.hid hle
  have hblk7 := (hb7.block g (heap_lt (HBLK6.out _))).trans (HBLK6.out _)
  have HBLK7 := Lib.hid hblk7
  have HV7 := Lib.hid ((HV6.out _).below hb7)
  have HB7 := Lib.hid (below_tr (HB6.out _) hb7)
  obtain ⟨p0, p1, p2, p3, p4⟩ := box5 hblk7
  clear l0 l1 l2 l3 l4 hb7 hblk7 HV6 HB6 HBLK6 hF hle
  cases F with
  | none =>
    have e : vf = .slice none 0 0 := hf
    subst e
    have hz : at' = -1 := by rw [← HAT.out]; exact short_none HLE.out HF.out (okOps_opsN HOK.out)
    have qz : (at' == -1) = true := by simp [hz]
    have HB := HB7
    clear hf hz
    go_wp2_with fail
    go_ret
    exact ⟨by simp [qz], HB.out⟩
  | some f =>
    obtain ⟨hne, hfR⟩ := hf
    obtain ⟨fg, fc, rfl, _⟩ := Kd.R_form hfR (List.length_pos_iff.2 hne)
    have hfC := (Kd.R_reads' hfR).2.2
    have hfm := C_max hfC
    have HFC := Lib.hid hfC
    obtain ⟨hfo, _, hfr⟩ := short_runs HF.out
    have hfs := short_some HLE.out HF.out (okOps_opsN HOK.out)
    rw [HAT.out] at hfs
    have HFO := Lib.hid hfo
    have HFR := Lib.hid hfr
    have h1 : 0 < f.length := List.length_pos_iff.2 hne
    have k1 : ((f.length : Int) == 0) = false := by simp; omega
    have k2 : ((f.length : Int) - 1 ≤ at') ∨ at' < 0 := by omega
    have k3 : (decide (0 ≤ at') && decide (at' < (f.length : Int) - 1)) = false := by simp; omega
    clear hfR hfC hfo hfr hfs hne
    cases h40 : decide (40 < (f.length : Int)) with
    | true =>
      cases h9 : decide (0 ≤ at') with
      | true =>
        have k4 : decide (at' < (f.length : Int) - 1) = false := by simp at h9 k3 ⊢; omega
        clear k3 k2
        go_wp2_with fail
        go_ret
        exact ⟨rfl, HB7.out⟩
      | false =>
        clear k3 k2
        go_wp2_with fail
        go_ret
        exact ⟨rfl, HB7.out⟩
    | false =>
      cases h9 : decide (0 ≤ at') with
      | true =>
        have k4 : decide (at' < (f.length : Int) - 1) = false := by simp at h9 k3 ⊢; omega
        clear k3 k2
        go_wp2_with fail
        have hok : okOps f n = true := opsN_okOps HFO.out (by simp at h40; omega)
        refine (RunSystem p _ n _ fc f _ HV7.out HP.out hnn hn3 HFC.out hok).mono ?_
        rintro e w8 ⟨sv, rfl, hsv, hb8⟩
        obtain ⟨G1, d1, G2, d2, rfl, _⟩ := hsv
        have HB8 := Lib.hid (below_tr HB7.out hb8)
        have q9 : ((runS p (first n) 0 f).2 == (f.length : Int) - 1) = true := by simp [HFR.out]
        have q10 : (f.length : Int) - 1 ≤ 40 := by simp at h40; omega
        obtain ⟨at2, hat2⟩ : ∃ at2, (runS p (first n) 0 f).2 = at2 := ⟨_, rfl⟩
        simp only [hat2] at q9 ⊢
        obtain ⟨M1, hM1⟩ : ∃ Ly, (runS p (first n) 0 f).1.cs.length = Ly := ⟨_, rfl⟩
        obtain ⟨M2, hM2⟩ : ∃ Ly, (runS p (first n) 0 f).1.fs.length = Ly := ⟨_, rfl⟩
        obtain ⟨zm, hzm⟩ : ∃ ym, (runS p (first n) 0 f).1.m = ym := ⟨_, rfl⟩
        simp only [hM1, hM2, hzm]
        clear hb8 hM1 hM2 hzm hat2
        go_wp2_with fail
        go_ret
        exact ⟨by simp [q9], HB8.out.alloc HB8.out.size _⟩
      | false =>
        clear k3 k2
        go_wp2_with fail
        have hok : okOps f n = true := opsN_okOps HFO.out (by simp at h40; omega)
        refine (RunSystem p _ n _ fc f _ HV7.out HP.out hnn hn3 HFC.out hok).mono ?_
        rintro e w8 ⟨sv, rfl, hsv, hb8⟩
        obtain ⟨G1, d1, G2, d2, rfl, _⟩ := hsv
        have HB8 := Lib.hid (below_tr HB7.out hb8)
        have q9 : ((runS p (first n) 0 f).2 == (f.length : Int) - 1) = true := by simp [HFR.out]
        have q10 : (f.length : Int) - 1 ≤ 40 := by simp at h40; omega
        obtain ⟨at2, hat2⟩ : ∃ at2, (runS p (first n) 0 f).2 = at2 := ⟨_, rfl⟩
        simp only [hat2] at q9 ⊢
        obtain ⟨M1, hM1⟩ : ∃ Ly, (runS p (first n) 0 f).1.cs.length = Ly := ⟨_, rfl⟩
        obtain ⟨M2, hM2⟩ : ∃ Ly, (runS p (first n) 0 f).1.fs.length = Ly := ⟨_, rfl⟩
        obtain ⟨zm, hzm⟩ : ∃ ym, (runS p (first n) 0 f).1.m = ym := ⟨_, rfl⟩
        simp only [hM1, hM2, hzm]
        clear hb8 hM1 hM2 hzm hat2
        go_wp2_with fail
        go_ret
        exact ⟨by simp [q9], HB8.out.alloc HB8.out.size _⟩
theorem fnShortestFlaw_row (A : Option Addr) (c : Nat) (us : List Int) (B : Option Addr) (d : Nat) (bs : List Int) (w : World) (hA : Kd.C (Kd.int .u8) w A us.length us) (_ : us.length ≤ c) (qA : ∀ z ∈ us, (Lit.int .u8 z).wf = true) (hB : Kd.C (Kd.int .u8) w B bs.length bs) (_ : bs.length ≤ d) (qB : ∀ z ∈ bs, (Lit.int .u8 z).wf = true) :
    Calls Try.prog 8 #[.slice A us.length c, .slice B bs.length d] w fun e w' => e = .returned (.bool true) ∧ Below w.heap.size w w' :=
  fnShortestFlaw A B us.length bs.length c d us bs w ⟨hA, rfl, fun z hz => wf_u8 (qA z hz)⟩ ⟨hB, rfl, fun z hz => wf_u8 (qB z hz)⟩
end Go.Proofs.Ytfeabjiccnnpcaa.Ca
