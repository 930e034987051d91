import Derived.Test.YtfeabjiccnnpcaaRc
import Derived.Test.YtfeabjiccnnpcaaSp
set_option linter.unusedVariables false
set_option linter.unusedSimpArgs false
namespace Go.Proofs.Ytfeabjiccnnpcaa.Ca
open Go.RowKit Go.Proofs.YtfeabjiccnnpcaaW.PrintWords Go.Proofs.YtfeabjiccnnpcaaW.PrintLast Go.Proofs.Ytfeabjiccnnpcaa.Ba Go.Proofs.Ytfeabjiccnnpcaa.Sa Go.Proofs.Ytfeabjiccnnpcaa.Bfs

/-- a protocol in a box: its block and its rows -/
structure PB (w : World) (g : Nat) (p : Proto) (AA : Nat → Option Addr) (cc : Nat → Nat) : Prop where
  blk : w.heap[g]? = some (.cells #[.slice (AA 0) (p.tab 0).length (cc 0), .slice (AA 1) (p.tab 1).length (cc 1), .slice (AA 2) (p.tab 2).length (cc 2), .slice (AA 3) (p.tab 3).length (cc 3), .slice (AA 4) (p.tab 4).length (cc 4)] 50 (0, 0))
  val : ProtoV w p (.agg #[.slice (AA 0) (p.tab 0).length (cc 0), .slice (AA 1) (p.tab 1).length (cc 1), .slice (AA 2) (p.tab 2).length (cc 2), .slice (AA 3) (p.tab 3).length (cc 3), .slice (AA 4) (p.tab 4).length (cc 4)])
theorem PB.below {w w1 : World} {g : Nat} {p : Proto} {AA : Nat → Option Addr} {cc : Nat → Nat} (h : PB w g p AA cc) (hb : Below w.heap.size w w1) : PB w1 g p AA cc := ⟨(hb.block g (heap_lt h.blk)).trans h.blk, h.val.below hb⟩
theorem PB.cells {w : World} {g : Nat} {p : Proto} {AA : Nat → Option Addr} {cc : Nat → Nat} (h : PB w g p AA cc) : w.cell? ⟨g, 0, none⟩ = some (.slice (AA 0) (p.tab 0).length (cc 0)) ∧ w.cell? ⟨g, 1, none⟩ = some (.slice (AA 1) (p.tab 1).length (cc 1)) ∧ w.cell? ⟨g, 2, none⟩ = some (.slice (AA 2) (p.tab 2).length (cc 2)) ∧ w.cell? ⟨g, 3, none⟩ = some (.slice (AA 3) (p.tab 3).length (cc 3)) ∧ w.cell? ⟨g, 4, none⟩ = some (.slice (AA 4) (p.tab 4).length (cc 4)) := box5 h.blk
theorem PB.box {w : World} {p : Proto} {AA : Nat → Option Addr} {cc : Nat → Nat} (h : ProtoV w p (.agg #[.slice (AA 0) (p.tab 0).length (cc 0), .slice (AA 1) (p.tab 1).length (cc 1), .slice (AA 2) (p.tab 2).length (cc 2), .slice (AA 3) (p.tab 3).length (cc 3), .slice (AA 4) (p.tab 4).length (cc 4)])) {g : Nat} (hg : w.heap.size = g) : PB (w.alloc (.cells #[.slice (AA 0) (p.tab 0).length (cc 0), .slice (AA 1) (p.tab 1).length (cc 1), .slice (AA 2) (p.tab 2).length (cc 2), .slice (AA 3) (p.tab 3).length (cc 3), .slice (AA 4) (p.tab 4).length (cc 4)] 50)) g p AA cc :=
  ⟨by rw [← hg]; exact heap_alloc_new w _, h.below ((Below.refl _ _).alloc (Nat.le_refl _) _)⟩

set_option maxHeartbeats 8000000 in
set_option maxRecDepth 100000 in
theorem fnAgreed (A B : Option Addr) (na nb ca cb : Nat) (us bs : List Int) (w : World) (hA : Bytes w A na us) (hB : Bytes w B nb bs) :
    Calls Try.prog 6 #[.slice A na ca, .slice B nb cb] w fun e w' => e = .returned (.bool true) ∧ Below w.heap.size w w' := by
  have hma := C_max hA.1
  have hmb := C_max hB.1
  have HA := Lib.hid hA
  have HB := Lib.hid hB
  clear hA hB
  cases hl : longB na nb with
  | true =>
    have HL := Lib.hid hl
    clear hl
    go_enter Try.func6, Try.ntmps6
    go_wp2_with fail
    refine (r8Long A B na nb ca cb _ hma hmb).mono ?_
    rintro e w1 ⟨rfl, rfl⟩
    rw [HL.out]
    go_wp2_with fail
    go_ret
    exact ⟨rfl, Below.refl _ _⟩
  | false =>
  have HL := Lib.hid hl
  clear hl
  go_enter Try.func6, Try.ntmps6
  go_wp2_with fail
  refine (r8Long A B na nb ca cb _ hma hmb).mono ?_
  rintro e w ⟨rfl, rfl⟩
  rw [HL.out]
  clear HL
  go_wp2_with fail
  refine (r8At B nb cb bs 0 3 _ HB.out (by omega) (by omega) (by omega)).mono ?_
  rintro e w ⟨n0, rfl, hn, rfl⟩
  obtain ⟨m, rfl⟩ := Int.eq_ofNat_of_zero_le hn.1
  have hm3 : m < 3 := by omega
  clear hn
  go_wp2_with fail
  obtain ⟨n, hn1⟩ : ∃ n : Nat, n = 1 + m := ⟨_, rfl⟩
  have hnn : 0 < n := by omega
  have hn3 : n ≤ 3 := by omega
  have hnm : (1 : Int) + (m : Int) = (n : Int) := by omega
  simp only [hnm]
  clear hnm hn1 hm3
  have HBW : Hid (Below w.heap.size w w) := Lib.hid (Below.refl _ _)
  refine (r8At B nb cb bs 1 2 _ (HB.out.below HBW.out) (by omega) (by omega) (by omega)).mono ?_
  rintro e w' ⟨xr, rfl, _, rfl⟩
  obtain ⟨x, hx⟩ : ∃ x, (xr == (1 : Int)) = x := ⟨_, rfl⟩
  go_wp2_with fail
  clear hx
  refine (MsiImpl x _).mono ?_
  rintro e w1 ⟨v, rfl, hv, hb1⟩
  have hs := msi_sound x hnn hn3
  have hp := msi_valid x
  obtain ⟨p1, hpp⟩ : ∃ p, msiP (if x = true then 2 else 1) = p := ⟨_, rfl⟩
  rw [hpp] at hv hs hp
  clear hpp
  obtain ⟨AA1, cc1, rfl, hT⟩ := hv.tabs
  have HS1 := Lib.hid hs
  have HP1 := Lib.hid hp
  have HV := Lib.hid hv
  have HB1 := Lib.hid hb1
  clear hv hs hp hb1 hT
  go_wp2_with fail
  obtain ⟨g1, hg⟩ : ∃ g, w1.heap.size = g := ⟨_, rfl⟩
  have hpb := PB.box HV.out hg
  have hba : Below w1.heap.size w1 (w1.alloc (.cells #[.slice (AA1 0) (p1.tab 0).length (cc1 0), .slice (AA1 1) (p1.tab 1).length (cc1 1), .slice (AA1 2) (p1.tab 2).length (cc1 2), .slice (AA1 3) (p1.tab 3).length (cc1 3), .slice (AA1 4) (p1.tab 4).length (cc1 4)] 50)) := (Below.refl _ _).alloc (Nat.le_refl _) _
  have hbb := below_tr HB1.out hba
  obtain ⟨w2, hw2⟩ : ∃ w2, w2 = w1.alloc (.cells #[.slice (AA1 0) (p1.tab 0).length (cc1 0), .slice (AA1 1) (p1.tab 1).length (cc1 1), .slice (AA1 2) (p1.tab 2).length (cc1 2), .slice (AA1 3) (p1.tab 3).length (cc1 3), .slice (AA1 4) (p1.tab 4).length (cc1 4)] 50) := ⟨_, rfl⟩
  rw [← hw2] at hpb hbb ⊢
  simp only [hg]
  have HPB1 := Lib.hid hpb
  obtain ⟨l10, l11, l12, l13, l14⟩ := hpb.cells
  clear hw2 hg hpb hba HV HB1
  have HBW := Lib.hid (below_tr HBW.out hbb)
  clear hbb
  go_wp2_with fail
  refine (r8At B nb cb bs 1 2 _ (HB.out.below HBW.out) (by omega) (by omega) (by omega)).mono ?_
  rintro e w' ⟨xr, rfl, _, rfl⟩
  obtain ⟨x, hx⟩ : ∃ x, (xr == (1 : Int)) = x := ⟨_, rfl⟩
  go_wp2_with fail
  clear hx
  refine (ThroughImpl x _).mono ?_
  rintro e w1 ⟨v, rfl, hv, hb1⟩
  have hs := thr_sound x hnn hn3
  have hp := thr_valid x
  obtain ⟨p2, hpp⟩ : ∃ p, thrP (if x = true then 1 else 0) = p := ⟨_, rfl⟩
  rw [hpp] at hv hs hp
  clear hpp
  obtain ⟨AA2, cc2, rfl, hT⟩ := hv.tabs
  have HS2 := Lib.hid hs
  have HP2 := Lib.hid hp
  have HV := Lib.hid hv
  have HB1 := Lib.hid hb1
  clear hv hs hp hb1 hT
  go_wp2_with fail
  obtain ⟨g2, hg⟩ : ∃ g, w1.heap.size = g := ⟨_, rfl⟩
  have hpb := PB.box HV.out hg
  have hba : Below w1.heap.size w1 (w1.alloc (.cells #[.slice (AA2 0) (p2.tab 0).length (cc2 0), .slice (AA2 1) (p2.tab 1).length (cc2 1), .slice (AA2 2) (p2.tab 2).length (cc2 2), .slice (AA2 3) (p2.tab 3).length (cc2 3), .slice (AA2 4) (p2.tab 4).length (cc2 4)] 50)) := (Below.refl _ _).alloc (Nat.le_refl _) _
  have hbb := below_tr HB1.out hba
  obtain ⟨w2, hw2⟩ : ∃ w2, w2 = w1.alloc (.cells #[.slice (AA2 0) (p2.tab 0).length (cc2 0), .slice (AA2 1) (p2.tab 1).length (cc2 1), .slice (AA2 2) (p2.tab 2).length (cc2 2), .slice (AA2 3) (p2.tab 3).length (cc2 3), .slice (AA2 4) (p2.tab 4).length (cc2 4)] 50) := ⟨_, rfl⟩
  rw [← hw2] at hpb hbb ⊢
  simp only [hg]
  have HPB2 := Lib.hid hpb
  obtain ⟨l20, l21, l22, l23, l24⟩ := hpb.cells
  clear hw2 hg hpb hba HV HB1
  clear l10 l11 l12 l13 l14
  have HPB1 := Lib.hid (HPB1.out.below hbb)
  obtain ⟨l10, l11, l12, l13, l14⟩ := HPB1.out.cells
  have HBW := Lib.hid (below_tr HBW.out hbb)
  clear hbb
  go_wp2_with fail
  refine (R8Ops A na ca us n _ (HA.out.below HBW.out) (by omega) (by omega)).mono ?_
  rintro e w4 ⟨AO, co, ops, rfl, hops, hok, hlen, hb⟩
  have HOK := Lib.hid hok
  have HOPS := Lib.hid hops
  clear l10 l11 l12 l13 l14
  have HPB1 := Lib.hid (HPB1.out.below hb)
  obtain ⟨l10, l11, l12, l13, l14⟩ := HPB1.out.cells
  clear l20 l21 l22 l23 l24
  have HPB2 := Lib.hid (HPB2.out.below hb)
  obtain ⟨l20, l21, l22, l23, l24⟩ := HPB2.out.cells
  have HBW := Lib.hid (below_tr HBW.out hb)
  clear hops hok hb
  go_wp2_with fail
  refine (ShortestFlaw p1 _ n _ HPB1.out.val HP1.out hnn hn3).mono ?_
  rintro e w5 ⟨vf, i, rfl, hle, hf, hb⟩
  have h1 := (HS1.out i hle).1
  rw [h1] at hf
  obtain rfl : vf = .slice none 0 0 := hf
  rw [h1]
  have hr1 : (runS p1 (first n) 0 ops).2 = -1 := short_none hle h1 (okOps_opsN HOK.out)
  have HR1 := Lib.hid hr1
  clear l10 l11 l12 l13 l14
  have HPB1 := Lib.hid (HPB1.out.below hb)
  obtain ⟨l10, l11, l12, l13, l14⟩ := HPB1.out.cells
  clear l20 l21 l22 l23 l24
  have HPB2 := Lib.hid (HPB2.out.below hb)
  obtain ⟨l20, l21, l22, l23, l24⟩ := HPB2.out.cells
  have HOPS := Lib.hid (Kd.C_below HOPS.out hb)
  have HBW := Lib.hid (below_tr HBW.out hb)
  clear hb hle h1 hr1
  go_wp2_with fail
  refine (ShortestFlaw p2 _ n _ HPB2.out.val HP2.out hnn hn3).mono ?_
  rintro e w6 ⟨vf, i, rfl, hle, hf, hb⟩
  have h1 := (HS2.out i hle).1
  rw [h1] at hf
  obtain rfl : vf = .slice none 0 0 := hf
  rw [h1]
  have hr1 : (runS p2 (first n) 0 ops).2 = -1 := short_none hle h1 (okOps_opsN HOK.out)
  have HR2 := Lib.hid hr1
  clear l10 l11 l12 l13 l14
  have HPB1 := Lib.hid (HPB1.out.below hb)
  obtain ⟨l10, l11, l12, l13, l14⟩ := HPB1.out.cells
  clear l20 l21 l22 l23 l24
  have HPB2 := Lib.hid (HPB2.out.below hb)
  obtain ⟨l20, l21, l22, l23, l24⟩ := HPB2.out.cells
  have HOPS := Lib.hid (Kd.C_below HOPS.out hb)
  have HBW := Lib.hid (below_tr HBW.out hb)
  clear hb hle h1 hr1
  go_wp2_with fail
  refine (OwnersAlone p1 _ n _ HPB1.out.val HP1.out hnn hn3).mono ?_
  rintro e w7 ⟨i, rfl, hle, hb⟩
  rw [(HS1.out i hle).2]
  clear l10 l11 l12 l13 l14
  have HPB1 := Lib.hid (HPB1.out.below hb)
  obtain ⟨l10, l11, l12, l13, l14⟩ := HPB1.out.cells
  clear l20 l21 l22 l23 l24
  have HPB2 := Lib.hid (HPB2.out.below hb)
  obtain ⟨l20, l21, l22, l23, l24⟩ := HPB2.out.cells
  have HOPS := Lib.hid (Kd.C_below HOPS.out hb)
  have HBW := Lib.hid (below_tr HBW.out hb)
  clear hb hle
  go_wp2_with fail
  refine (RunSystem p1 _ n AO co ops _ HPB1.out.val HP1.out hnn hn3 HOPS.out HOK.out).mono ?_
  rintro e w' ⟨sv, rfl, hsv, hb1⟩
  obtain ⟨X1, hX⟩ : ∃ X, (runS p1 (first n) 0 ops).1 = X := ⟨_, rfl⟩
  have hy := runS_Ok HP1.out ops (first n) 0 (Sys.Ok.first n) (okOps_mem HOK.out)
  rw [hX] at hsv hy
  simp only [HR1.out, hX]
  obtain ⟨E1, e1, F1, f1, rfl, _, hE, _, hF⟩ := hsv
  rw [hy.lc] at hE ⊢
  rw [hy.lf] at hF ⊢
  have HY1 := Lib.hid hy
  obtain ⟨ym1, hym⟩ : ∃ ym, X1.m = ym := ⟨_, rfl⟩
  rw [hym]
  have HM1 := Lib.hid hym
  obtain ⟨h1, hh⟩ : ∃ h, w'.heap.size = h := ⟨_, rfl⟩
  obtain ⟨w8, hw8⟩ : ∃ w8, w8 = w'.alloc (.cells #[.slice E1 n e1, .slice F1 n f1, .bool ym1] 60) := ⟨_, rfl⟩
  have hb2 : Below w'.heap.size w' w8 := by rw [hw8]; exact (Below.refl _ _).alloc (Nat.le_refl _) _
  have hyk : w8.heap[h1]? = some (.cells #[.slice E1 n e1, .slice F1 n f1, .bool ym1] 60 (0, 0)) := by rw [hw8, ← hh]; exact heap_alloc_new w' _
  have HE1 := Lib.hid (Kd.C_below hE hb2)
  have HF1 := Lib.hid (Kd.C_below hF hb2)
  have HX1 := Lib.hid hyk
  have hbb := below_tr hb1 hb2
  have hlo : ∀ o, (w'.alloc o).heap[g1]? = _ := fun o => ((hb1.alloc hb1.size o).block g1 (heap_lt HPB1.out.blk)).trans HPB1.out.blk
  have hlp : ∀ o, (w'.alloc o).heap[g2]? = _ := fun o => ((hb1.alloc hb1.size o).block g2 (heap_lt HPB2.out.blk)).trans HPB2.out.blk
  clear hX hE hF hy hym hb1 hb2 hyk
  have m0 : ∀ o, (w'.alloc o).cell? ⟨g2, 0, none⟩ = _ := fun o => (box5 (hlp o)).1
  have m1 : ∀ o, (w'.alloc o).cell? ⟨g2, 1, none⟩ = _ := fun o => (box5 (hlp o)).2.1
  have m2 : ∀ o, (w'.alloc o).cell? ⟨g2, 2, none⟩ = _ := fun o => (box5 (hlp o)).2.2.1
  have m3 : ∀ o, (w'.alloc o).cell? ⟨g2, 3, none⟩ = _ := fun o => (box5 (hlp o)).2.2.2.1
  have m4 : ∀ o, (w'.alloc o).cell? ⟨g2, 4, none⟩ = _ := fun o => (box5 (hlp o)).2.2.2.2
  clear hlo hlp
  go_wp2_with fail
  rw [← hw8]
  try simp only [hh]
  clear m0 m1 m2 m3 m4 hw8 hh
  clear l10 l11 l12 l13 l14
  have HPB1 := Lib.hid (HPB1.out.below hbb)
  obtain ⟨l10, l11, l12, l13, l14⟩ := HPB1.out.cells
  clear l20 l21 l22 l23 l24
  have HPB2 := Lib.hid (HPB2.out.below hbb)
  obtain ⟨l20, l21, l22, l23, l24⟩ := HPB2.out.cells
  have HOPS := Lib.hid (Kd.C_below HOPS.out hbb)
  have HBW := Lib.hid (below_tr HBW.out hbb)
  clear hbb
  refine (RunSystem p2 _ n AO co ops _ HPB2.out.val HP2.out hnn hn3 HOPS.out HOK.out).mono ?_
  rintro e w' ⟨sv, rfl, hsv, hb1⟩
  obtain ⟨X2, hX⟩ : ∃ X, (runS p2 (first n) 0 ops).1 = X := ⟨_, rfl⟩
  have hy := runS_Ok HP2.out ops (first n) 0 (Sys.Ok.first n) (okOps_mem HOK.out)
  rw [hX] at hsv hy
  simp only [HR2.out, hX]
  obtain ⟨E2, e2, F2, f2, rfl, _, hE, _, hF⟩ := hsv
  rw [hy.lc] at hE ⊢
  rw [hy.lf] at hF ⊢
  have HY2 := Lib.hid hy
  obtain ⟨ym2, hym⟩ : ∃ ym, X2.m = ym := ⟨_, rfl⟩
  rw [hym]
  have HM2 := Lib.hid hym
  obtain ⟨h2, hh⟩ : ∃ h, w'.heap.size = h := ⟨_, rfl⟩
  obtain ⟨w8, hw8⟩ : ∃ w8, w8 = w'.alloc (.cells #[.slice E2 n e2, .slice F2 n f2, .bool ym2] 60) := ⟨_, rfl⟩
  have hb2 : Below w'.heap.size w' w8 := by rw [hw8]; exact (Below.refl _ _).alloc (Nat.le_refl _) _
  have hyk : w8.heap[h2]? = some (.cells #[.slice E2 n e2, .slice F2 n f2, .bool ym2] 60 (0, 0)) := by rw [hw8, ← hh]; exact heap_alloc_new w' _
  have HE2 := Lib.hid (Kd.C_below hE hb2)
  have HF2 := Lib.hid (Kd.C_below hF hb2)
  have HX2 := Lib.hid hyk
  have hbb := below_tr hb1 hb2
  have hlo : ∀ o, (w'.alloc o).heap[g1]? = _ := fun o => ((hb1.alloc hb1.size o).block g1 (heap_lt HPB1.out.blk)).trans HPB1.out.blk
  have hlp : ∀ o, (w'.alloc o).heap[g2]? = _ := fun o => ((hb1.alloc hb1.size o).block g2 (heap_lt HPB2.out.blk)).trans HPB2.out.blk
  clear hX hE hF hy hym hb1 hb2 hyk
  have HX1 := Lib.hid ((hbb.block h1 (heap_lt HX1.out)).trans HX1.out)
  have HE1 := Lib.hid (Kd.C_below HE1.out hbb)
  have HF1 := Lib.hid (Kd.C_below HF1.out hbb)
  have m0 : ∀ o, (w'.alloc o).cell? ⟨g1, 0, none⟩ = _ := fun o => (box5 (hlo o)).1
  have m1 : ∀ o, (w'.alloc o).cell? ⟨g1, 1, none⟩ = _ := fun o => (box5 (hlo o)).2.1
  have m2 : ∀ o, (w'.alloc o).cell? ⟨g1, 2, none⟩ = _ := fun o => (box5 (hlo o)).2.2.1
  have m3 : ∀ o, (w'.alloc o).cell? ⟨g1, 3, none⟩ = _ := fun o => (box5 (hlo o)).2.2.2.1
  have m4 : ∀ o, (w'.alloc o).cell? ⟨g1, 4, none⟩ = _ := fun o => (box5 (hlo o)).2.2.2.2
  clear hlo hlp
  go_wp2_with fail
  rw [← hw8]
  try simp only [hh]
  clear m0 m1 m2 m3 m4 hw8 hh
  clear l10 l11 l12 l13 l14
  have HPB1 := Lib.hid (HPB1.out.below hbb)
  obtain ⟨l10, l11, l12, l13, l14⟩ := HPB1.out.cells
  clear l20 l21 l22 l23 l24
  have HPB2 := Lib.hid (HPB2.out.below hbb)
  obtain ⟨l20, l21, l22, l23, l24⟩ := HPB2.out.cells
  have HBW := Lib.hid (below_tr HBW.out hbb)
  clear hbb
  refine (ReachedSystems p1 _ n _ HPB1.out.val HP1.out hnn hn3).mono ?_
  rintro e w9 ⟨i, rfl, hle, hb⟩
  have hpos := bfs_pos p1 n i
  obtain ⟨N, hN⟩ : ∃ N, (bfsS p1 n i).1.length = N := ⟨_, rfl⟩
  rw [hN] at hpos
  rw [hN]
  have b1 : decide ((1 : Int) ≤ (N : Int)) = true := decide_eq_true (by omega)
  have hk1 := (hb.block h1 (heap_lt HX1.out)).trans HX1.out
  have hk2 := (hb.block h2 (heap_lt HX2.out)).trans HX2.out
  have HK1 := Lib.hid hk1
  have HK2 := Lib.hid hk2
  obtain ⟨x10, x11, x12⟩ := box3 hk1
  obtain ⟨x20, x21, x22⟩ := box3 hk2
  have HE1 := Lib.hid (Kd.C_below HE1.out hb)
  have HF1 := Lib.hid (Kd.C_below HF1.out hb)
  have HE2 := Lib.hid (Kd.C_below HE2.out hb)
  have HF2 := Lib.hid (Kd.C_below HF2.out hb)
  clear l10 l11 l12 l13 l14
  have HPB1 := Lib.hid (HPB1.out.below hb)
  obtain ⟨l10, l11, l12, l13, l14⟩ := HPB1.out.cells
  clear l20 l21 l22 l23 l24
  have HPB2 := Lib.hid (HPB2.out.below hb)
  obtain ⟨l20, l21, l22, l23, l24⟩ := HPB2.out.cells
  have HBW := Lib.hid (below_tr HBW.out hb)
  clear hb hle hN hpos HX1 HX2 hk1 hk2
  go_wp2_with fail
  have hvs := ValidSystem E1 F1 n e1 f1 X1 w9 hnn hn3 HY1.out HE1.out HF1.out
  rw [HM1.out] at hvs
  refine hvs.mono ?_
  rintro e w10 ⟨rfl, hb⟩
  have hk2 := (hb.block h2 (heap_lt HK2.out)).trans HK2.out
  clear x10 x11 x12 x20 x21 x22 hvs
  obtain ⟨x20, x21, x22⟩ := box3 hk2
  have HE2 := Lib.hid (Kd.C_below HE2.out hb)
  have HF2 := Lib.hid (Kd.C_below HF2.out hb)
  clear l10 l11 l12 l13 l14
  have HPB1 := Lib.hid (HPB1.out.below hb)
  obtain ⟨l10, l11, l12, l13, l14⟩ := HPB1.out.cells
  clear l20 l21 l22 l23 l24
  have HPB2 := Lib.hid (HPB2.out.below hb)
  obtain ⟨l20, l21, l22, l23, l24⟩ := HPB2.out.cells
  have HBW := Lib.hid (below_tr HBW.out hb)
  clear hb hk2
  go_wp2_with fail
  have hvs := ValidSystem E2 F2 n e2 f2 X2 w10 hnn hn3 HY2.out HE2.out HF2.out
  rw [HM2.out] at hvs
  refine hvs.mono ?_
  rintro e w11 ⟨rfl, hb⟩
  clear x20 x21 x22 hvs
  clear l10 l11 l12 l13 l14
  have HPB1 := Lib.hid (HPB1.out.below hb)
  obtain ⟨l10, l11, l12, l13, l14⟩ := HPB1.out.cells
  clear l20 l21 l22 l23 l24
  have HPB2 := Lib.hid (HPB2.out.below hb)
  obtain ⟨l20, l21, l22, l23, l24⟩ := HPB2.out.cells
  have HBW := Lib.hid (below_tr HBW.out hb)
  clear hb
  go_wp2_with fail
  refine (ValidProtocol p1 _ _ HPB1.out.val).mono ?_
  rintro e w12 ⟨rfl, hb⟩
  rw [HP1.out]
  clear l10 l11 l12 l13 l14
  have HPB1 := Lib.hid (HPB1.out.below hb)
  obtain ⟨l10, l11, l12, l13, l14⟩ := HPB1.out.cells
  clear l20 l21 l22 l23 l24
  have HPB2 := Lib.hid (HPB2.out.below hb)
  obtain ⟨l20, l21, l22, l23, l24⟩ := HPB2.out.cells
  have HBW := Lib.hid (below_tr HBW.out hb)
  clear hb
  go_wp2_with fail
  refine (ValidProtocol p2 _ _ HPB2.out.val).mono ?_
  rintro e w13 ⟨rfl, hb⟩
  rw [HP2.out]
  clear l10 l11 l12 l13 l14
  have HPB1 := Lib.hid (HPB1.out.below hb)
  obtain ⟨l10, l11, l12, l13, l14⟩ := HPB1.out.cells
  clear l20 l21 l22 l23 l24
  have HPB2 := Lib.hid (HPB2.out.below hb)
  obtain ⟨l20, l21, l22, l23, l24⟩ := HPB2.out.cells
  have HBW := Lib.hid (below_tr HBW.out hb)
  clear hb
  go_wp2_with fail
  go_ret
  exact ⟨rfl, HBW.out⟩
theorem fnAgreed_row (A : Option Addr) (c : Nat) (us : List Int) (B : Option Addr) (d : Nat) (bs : List Int) (w : World) (hA : Kd.C (Kd.int .u8) w A us.length us) (_ : us.length ≤ c) (qA : ∀ z ∈ us, (Lit.int .u8 z).wf = true) (hB : Kd.C (Kd.int .u8) w B bs.length bs) (_ : bs.length ≤ d) (qB : ∀ z ∈ bs, (Lit.int .u8 z).wf = true) :
    Calls Try.prog 6 #[.slice A us.length c, .slice B bs.length d] w fun e w' => e = .returned (.bool true) ∧ Below w.heap.size w w' :=
  fnAgreed A B us.length bs.length c d us bs w ⟨hA, rfl, fun z hz => wf_u8 (qA z hz)⟩ ⟨hB, rfl, fun z hz => wf_u8 (qB z hz)⟩
end Go.Proofs.Ytfeabjiccnnpcaa.Ca
