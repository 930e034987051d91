import Derived.Test.YtfeabjiccnnpcaaSn
set_option linter.unusedVariables false
set_option linter.unusedSimpArgs false
namespace Go.Proofs.Ytfeabjiccnnpcaa.Ca
open Go.RowKit Go.Proofs.YtfeabjiccnnpcaaW.PrintWords Go.Proofs.YtfeabjiccnnpcaaW.PrintLast Go.Proofs.Ytfeabjiccnnpcaa.Ba Go.Proofs.Ytfeabjiccnnpcaa.Sa

theorem runS_Ok {p : Proto} (hp : validP p = true) {n : Nat} : ∀ (ops : List Op) (x : Sys) (k : Int), x.Ok n → (∀ o ∈ ops, 0 ≤ o.cache ∧ o.cache < n) → (runS p x k ops).1.Ok n
  | [], x, k, hx, _ => hx
  | o :: r, x, k, hx, ho => by
    have h0 := ho o List.mem_cons_self
    have h1 := hx.step hp o h0.1 h0.2
    rw [runS]
    split
    · exact h1
    · exact runS_Ok hp r _ _ h1 (fun q hq => ho q (List.mem_cons_of_mem _ hq))
theorem okOps_mem {ops : List Op} {n : Nat} (h : okOps ops n = true) : ∀ o ∈ ops, 0 ≤ o.cache ∧ o.cache < n := fun o ho => by
  obtain ⟨k, hk, rfl⟩ := List.getElem_of_mem ho
  have := okOps_at h k hk
  exact ⟨this.2.2.1, this.2.2.2.1⟩
/-- a system in a box, its rows elsewhere -/
def XBox (w : World) (X n : Nat) (x : Sys) : Prop := ∃ a b ca cb, w.heap[X]? = some (.cells #[.slice (some ⟨a, 0, none⟩) n ca, .slice (some ⟨b, 0, none⟩) n cb, .bool x.m] 60 (0, 0)) ∧
  (Kd.int .i64).R 2 w 0 (fun k => k ≠ X) (.slice (some ⟨a, 0, none⟩) n ca) x.cs ∧ Kd.bool.R 4 w 0 (fun k => k ≠ X) (.slice (some ⟨b, 0, none⟩) n cb) x.fs
theorem XBox.drewN {w : World} {X n : Nat} {x : Sys} (h : XBox w X n x) (m : Nat) : XBox (w.drewN m) X n x := by
  obtain ⟨a, b, ca, cb, h0, h1, h2⟩ := h
  exact ⟨a, b, ca, cb, h0, Kd.R_drewN h1 m, Kd.R_drewN h2 m⟩
theorem set3 {w : World} {g : Nat} {x0 x1 x2 : Value} {t : TypeId} {fr : Nat × Nat} (h : w.heap[g]? = some (.cells #[x0, x1, x2] t fr)) (y0 y1 y2 : Value) : (((w.setCell ⟨g, 0, none⟩ y0).setCell ⟨g, 1, none⟩ y1).setCell ⟨g, 2, none⟩ y2).heap[g]? = some (.cells #[y0, y1, y2] t fr) := by
  have h0 := Joins.block_setCell (i := 0) h y0
  have h1 := Joins.block_setCell (i := 1) h0 y1
  exact Joins.block_setCell (i := 2) h1 y2
theorem far3 {w : World} {g k : Nat} (hk : k ≠ g) (y0 y1 y2 : Value) : (((w.setCell ⟨g, 0, none⟩ y0).setCell ⟨g, 1, none⟩ y1).setCell ⟨g, 2, none⟩ y2).heap[k]? = w.heap[k]? := by
  rw [Below.heap_setCell _ _ _ _ hk, Below.heap_setCell _ _ _ _ hk, Below.heap_setCell _ _ _ _ hk]
theorem below3 {B : Nat} {w w1 : World} (h : Below B w w1) {g : Nat} (hb : B ≤ g) (y0 y1 y2 : Value) : Below B w (((w1.setCell ⟨g, 0, none⟩ y0).setCell ⟨g, 1, none⟩ y1).setCell ⟨g, 2, none⟩ y2) :=
  ((h.setCell (p := ⟨g, 0, none⟩) hb _).setCell (p := ⟨g, 1, none⟩) hb _).setCell (p := ⟨g, 2, none⟩) hb _
set_option maxHeartbeats 8000000 in
set_option maxRecDepth 100000 in
theorem fnSeen (A B : Option Addr) (na nb ca cb : Nat) (us bs : List Int) (w : World) (hA : Bytes w A na us) (hB : Bytes w B nb bs) :
    Calls Try.prog 7 #[.slice A na ca, .slice B nb cb] w fun e w' => e = .returned (.bool true) ∧ Below w.heap.size w w' := by
  have hma := C_max hA.1
  have hmb := C_max hB.1
  have HA := Lib.hid hA
  have HB := Lib.hid hB
  clear hA hB
  cases hl : longB na nb with
  | true =>
    have HL := Lib.hid hl
    clear hl
    go_enter Try.func7, Try.ntmps7
    go_wp2_with fail
    refine (r8Long A B na nb ca cb _ hma hmb).mono ?_
    rintro e w1 ⟨rfl, rfl⟩
    rw [HL.out]
    go_wp2_with fail
    go_ret
    exact ⟨rfl, Below.refl _ _⟩
  | false =>
  have HL := Lib.hid hl
  clear hl
  go_enter Try.func7, Try.ntmps7
  go_wp2_with fail
  refine (r8Long A B na nb ca cb _ hma hmb).mono ?_
  rintro e w ⟨rfl, rfl⟩
  rw [HL.out]
  clear HL
  go_wp2_with fail
  refine (R8Protocol A na ca us _ HA.out).mono ?_
  rintro e w1 ⟨v, p, rfl, hv, hp, hb1⟩
  obtain ⟨AA, cc, rfl, hT⟩ := hv.tabs
  have HP := Lib.hid hp
  have HV := Lib.hid hv
  have HB1 := Lib.hid hb1
  clear hv hp hb1 hT
  go_wp2_with fail
  -- the protocol's box
  obtain ⟨w2, hw2⟩ : ∃ w2, w2 = w1.alloc (.cells #[.slice (AA 0) (p.tab 0).length (cc 0), .slice (AA 1) (p.tab 1).length (cc 1), .slice (AA 2) (p.tab 2).length (cc 2), .slice (AA 3) (p.tab 3).length (cc 3), .slice (AA 4) (p.tab 4).length (cc 4)] 50) := ⟨_, rfl⟩
  obtain ⟨g, hg⟩ : ∃ g, w1.heap.size = g := ⟨_, rfl⟩
  have hb12 : Below w1.heap.size w1 w2 := by rw [hw2]; exact (Below.refl _ _).alloc (Nat.le_refl _) _
  have hblk : w2.heap[g]? = some (.cells #[.slice (AA 0) (p.tab 0).length (cc 0), .slice (AA 1) (p.tab 1).length (cc 1), .slice (AA 2) (p.tab 2).length (cc 2), .slice (AA 3) (p.tab 3).length (cc 3), .slice (AA 4) (p.tab 4).length (cc 4)] 50 (0, 0)) := by rw [hw2, ← hg]; exact heap_alloc_new w1 _
  have HBLK := Lib.hid hblk
  have HV2 := Lib.hid (HV.out.below hb12)
  have HB2 := Lib.hid (below_tr HB1.out hb12)
  rw [← hw2]
  simp only [hg]
  have HGW : Hid (w.heap.size ≤ g) := Lib.hid (by have := HB1.out.size; omega)
  clear hw2 hg hb12 hblk HV HB1
  refine (r8At B nb cb bs 0 3 _ (HB.out.below HB2.out) (by omega) (by omega) (by omega)).mono ?_
  rintro e w2 ⟨n0, rfl, hn, rfl⟩
  obtain ⟨m, rfl⟩ := Int.eq_ofNat_of_zero_le hn.1
  have hm3 : m < 3 := by omega
  clear hn
  go_wp2_with fail
  obtain ⟨n, hn1⟩ : ∃ n : Nat, n = 1 + m := ⟨_, rfl⟩
  have hnn : 0 < n := by omega
  have hn3 : n ≤ 3 := by omega
  have hnm : (1 : Int) + (m : Int) = (n : Int) := by omega
  simp only [hnm]
  clear hnm hn1 hm3
  refine (R8Ops B nb cb bs n _ (HB.out.below HB2.out) (by omega) (by omega)).mono ?_
  rintro e w4 ⟨AO, co, ops, rfl, hops, hok, hlen, hb4⟩
  have HOK := Lib.hid hok
  have HB4 := Lib.hid (below_tr HB2.out hb4)
  have HOPS := Lib.hid hops
  have HV4 := Lib.hid (HV2.out.below hb4)
  have hblk4 := (hb4.block g (heap_lt HBLK.out)).trans HBLK.out
  have HBLK4 := Lib.hid hblk4
  obtain ⟨p0, p1, p2, p3, p4⟩ := box5 hblk4
  clear hops hok hb4 hblk4 HV2 HB2 HBLK
  go_wp2_with fail
  refine (RunSystem p _ n AO co ops _ HV4.out HP.out hnn hn3 HOPS.out HOK.out).mono ?_
  rintro e w5 ⟨sv, rfl, hsv, hb5⟩
  have hy := runS_Ok HP.out ops (first n) 0 (Sys.Ok.first n) (okOps_mem HOK.out)
  have hbok := busS_ok p ops (first n) 0 0 0 (by omega)
  have hbbd := busS_bd p n HP.out ops (first n) 0 0 (Sys.Ok.first n) (okOps_mem HOK.out) (by omega) (by omega)
  obtain ⟨R, hR⟩ : ∃ R, runS p (first n) 0 ops = R := ⟨_, rfl⟩
  rw [hR] at hsv hy hbok
  simp only [hR]
  have HRU := Lib.hid hR
  clear hR
  obtain ⟨y, at'⟩ := R
  simp only at hsv hy hbok
  obtain ⟨E1, c1, E2, c2, rfl, _, hE1, _, hE2⟩ := hsv
  rw [hy.lc] at hE1 ⊢
  rw [hy.lf] at hE2 ⊢
  have HY := Lib.hid hy
  obtain ⟨ym, hym⟩ : ∃ ym, y.m = ym := ⟨_, rfl⟩
  rw [hym]
  have HYM := Lib.hid hym
  obtain ⟨w6, hw6⟩ : ∃ w6, w6 = w5.alloc (.cells #[.slice E1 n c1, .slice E2 n c2, .bool ym] 60) := ⟨_, rfl⟩
  obtain ⟨gy, hgy⟩ : ∃ gy, w5.heap.size = gy := ⟨_, rfl⟩
  have hb56 : Below w5.heap.size w5 w6 := by rw [hw6]; exact (Below.refl _ _).alloc (Nat.le_refl _) _
  have hb46 : Below w4.heap.size w4 w6 := below_tr hb5 hb56
  have hblk6 := (hb46.block g (heap_lt HBLK4.out)).trans HBLK4.out
  have hyk : w6.heap[gy]? = some (.cells #[.slice E1 n c1, .slice E2 n c2, .bool ym] 60 (0, 0)) := by rw [hw6, ← hgy]; exact heap_alloc_new w5 _
  have HBLK6 := Lib.hid hblk6
  have HYK := Lib.hid hyk
  have HE1 := Lib.hid (Kd.C_below hE1 hb56)
  have HE2 := Lib.hid (Kd.C_below hE2 hb56)
  have HOPS6 := Lib.hid (Kd.C_below HOPS.out hb46)
  have HV6 := Lib.hid (HV4.out.below hb46)
  have HB6 := Lib.hid (below_tr HB4.out hb46)
  clear p0 p1 p2 p3 p4
  obtain ⟨p0, p1, p2, p3, p4⟩ := box5 hblk6
  rw [hw6] at p0 p1 p2 p3 p4
  have HBOK := Lib.hid hbok
  have HBBD := Lib.hid hbbd
  clear hy hbok hbbd hym hb56 hb46 hblk6 hyk hE1 hE2 hb5 HBLK4 HOPS HV4 HB4
  go_wp2_with fail
  rw [← hw6]
  try simp only [hgy]
  clear hw6 hgy p0 p1 p2 p3 p4
  refine (BusTraffic p _ n AO co ops _ HV6.out HP.out hnn hn3 HOPS6.out HOK.out).mono ?_
  rintro e w7 ⟨rfl, hb7⟩
  obtain ⟨R, hR⟩ : ∃ R, busS p (first n) 0 0 ops = R := ⟨_, rfl⟩
  have hbok := HBOK.out
  have hbbd := HBBD.out
  rw [hR] at hbok hbbd
  simp only [hR]
  obtain ⟨sn, bk, bo⟩ := R
  simp only at hbok hbbd
  have f1 : (0 : Int) ≤ sn := hbbd.1
  have f2 : sn ≤ (ops.length : Int) := by have := hbbd.2.1; omega
  have f3 : (0 : Int) ≤ bk := hbbd.2.2.1
  have f4 : bk ≤ (ops.length : Int) * (n : Int) := by have := hbbd.2.2.2; omega
  have F4 := Lib.hid f4
  have F := Lib.hid (And.intro f1 (And.intro f2 f3))
  have q1 : (bo == (at' == -1)) = true := by simp [hbok]
  have q2 : (bo != (at' == -1)) = false := by simp [hbok]
  have HBO := Lib.hid hbok
  have hblk7 := (hb7.block g (heap_lt HBLK6.out)).trans HBLK6.out
  have hyk7 := (hb7.block gy (heap_lt HYK.out)).trans HYK.out
  have HBLK7 := Lib.hid hblk7
  have HYK7 := Lib.hid hyk7
  have HE17 := Lib.hid (Kd.C_below HE1.out hb7)
  have HE27 := Lib.hid (Kd.C_below HE2.out hb7)
  have HOPS7 := Lib.hid (Kd.C_below HOPS6.out hb7)
  have HV7 := Lib.hid (HV6.out.below hb7)
  have HB7 := Lib.hid (below_tr HB6.out hb7)
  have hgl : g < w7.heap.size := heap_lt hblk7
  have hgyl : gy < w7.heap.size := heap_lt hyk7
  have HGL := Lib.hid (And.intro hgl hgyl)
  clear hR f1 f2 f3 f4 hbok hbbd hblk7 hyk7 hb7 HBLK6 HYK HE1 HE2 HOPS6 HV6 HB6 hgl hgyl HBOK HBBD
  go_wp2_with fail
  have m2 := make2 n hn3
  have m4 := make4 n hn3
  obtain ⟨N7, hN7⟩ : ∃ N7, w7.heap.size = N7 := ⟨_, rfl⟩
  have HN7 := Lib.hid hN7
  clear hN7
  refine start_ (n := 7) (S := fun w' => True) (ds := [6]) #[false, false, false, false, false, false, false] (by kernel_rfl) rfl rfl trivial (fun hHeld => ?_)
  refine pure_ (i := 0) (N := some 55) (v := ?_) (a' := ?_) #[true, false, false, false, false, false, false] rfl rfl (by kernel_rfl) (fun _ _ _ h => h) (Or.inl ⟨by rfl, ?_⟩) ?_ ?_
  rotate_left
  · intro w'
    go_simp
    with_reducible rfl
  rotate_left
  · simp only [Act.put, List.setIfInBounds_toArray, List.set_cons_zero, List.set_cons_succ, i64_w, i32_w]
    rfl
  refine pure_ (i := 2) (N := some 57) (v := ?_) (a' := ?_) #[true, false, true, false, false, false, false] rfl rfl (by kernel_rfl) (fun _ _ _ h => h) (Or.inl ⟨by rfl, ?_⟩) ?_ ?_
  rotate_left
  · intro w'
    go_simp
    with_reducible rfl
  rotate_left
  · simp only [Act.put, List.setIfInBounds_toArray, List.set_cons_zero, List.set_cons_succ, i64_w, i32_w]
    rfl
  refine join_ (σ := Nat × Nat × Nat) 1 #[true, true, true, true, true, true, false] (fun s => [(56, .slice (some ⟨s.1, 0, none⟩) n n), (58, .slice (some ⟨s.2.1, 0, none⟩) n n), (59, .agg #[.slice (some ⟨s.1, 0, none⟩) n n, .slice (some ⟨s.2.1, 0, none⟩) n n, .bool true]), (14, .pointer (some ⟨s.2.2, 0, none⟩))]) (fun s w' => (Kd.int .i64).R 2 w' 0 (fun k => k ≠ s.2.2) (.slice (some ⟨s.1, 0, none⟩) n n) (first n).cs ∧ Kd.bool.R 4 w' 0 (fun k => k ≠ s.2.2) (.slice (some ⟨s.2.1, 0, none⟩) n n) (first n).fs ∧ w'.heap[s.2.2]? = some (.cells #[.slice none 0 0, .slice none 0 0, .bool false] 60 (0, 0)) ∧ Below w7.heap.size w7 w' ∧ w7.heap.size ≤ s.2.2) ?_ ?_
  rotate_left
  · intro hCont
    refine three_ (i := 1) (j := 3) (k := 5) (Ni := some 56) (Nj := some 58) (Nk := some 14) #[true, true, true, false, false, false, false] #[true, false, true, true, false, false, false] #[true, false, true, false, false, true, false] rfl rfl rfl rfl rfl rfl (by kernel_rfl) (by decide) (by decide) (by decide) (fun K hK => ?_) (fun K hK => ?_) (fun K hK => ?_)
    · skip
      refine value_ (w1 := ?_) (v := ?_) (by rfl) rfl ?_ ?_
      rotate_left 2
      · go_simp
        constructor
        · rfl
        · rfl
      refine hK.out _ _ trivial (fun hHeld => ?_)
      clear hK K
      refine norm_ (a' := ?_) ?_ ?_
      rotate_left
      · show Act.put _ (some 56) _ = _
        simp only [Act.put, List.setIfInBounds_toArray, List.set_cons_zero, List.set_cons_succ, i64_w, i32_w]
        rfl
      refine two_ (i := 3) (j := 5) (Ni := some 58) (Nj := some 14) #[true, true, true, true, false, false, false] #[true, true, true, false, false, true, false] rfl rfl rfl rfl (by kernel_rfl) (by decide) (by decide) (fun K hK => ?_) (fun K hK => ?_)
      · skip
        refine value_ (w1 := ?_) (v := ?_) (by rfl) rfl ?_ ?_
        rotate_left 2
        · go_simp
          constructor
          · rfl
          · rfl
        refine hK.out _ _ trivial (fun hHeld => ?_)
        clear hK K
        refine norm_ (a' := ?_) ?_ ?_
        rotate_left
        · show Act.put _ (some 58) _ = _
          simp only [Act.put, List.setIfInBounds_toArray, List.set_cons_zero, List.set_cons_succ, i64_w, i32_w]
          rfl
        refine pure_ (i := 4) (N := some 59) (v := ?_) (a' := ?_) #[true, true, true, true, true, false, false] rfl rfl (by kernel_rfl) (fun _ _ _ h => h) (Or.inl ⟨by rfl, ?_⟩) ?_ ?_
        rotate_left
        · intro w'
          go_simp
          with_reducible rfl
        rotate_left
        · simp only [Act.put, List.setIfInBounds_toArray, List.set_cons_zero, List.set_cons_succ, i64_w, i32_w]
          rfl
        refine one_ (i := 5) (N := some 14) #[true, true, true, true, true, true, false] rfl rfl (by kernel_rfl) (by decide) (fun K hK => ?_)
        refine value_ (w1 := ?_) (v := ?_) (by rfl) rfl ?_ ?_
        rotate_left 2
        · go_simp
          constructor
          · rfl
          · rfl
        refine hK.out _ _ trivial (fun hHeld => ?_)
        clear hK K
        refine norm_ (a' := ?_) ?_ ?_
        rotate_left
        · show Act.put _ (some 14) _ = _
          simp only [Act.put, List.setIfInBounds_toArray, List.set_cons_zero, List.set_cons_succ, i64_w, i32_w]
          rfl
        exact norm_ (by simp only [putAll, Act.put, List.setIfInBounds_toArray, List.set_cons_zero, List.set_cons_succ]) (hCont (w7.heap.size, w7.heap.size + 1, w7.heap.size + 1 + 1) _ ⟨(by have h := (Kd.R_below (Kd.R_below (R_mk (Value.int .i64) (fun _ => rfl) (0 : Int) 2 n 0 (w7.drew) (Nat.zero_le _) (by omega)) ((Below.refl _ _).alloc (Nat.le_refl _) (.cells (madeCells #[.bool false] n) 4))) ((Below.refl _ _).alloc (Nat.le_refl _) (.cells #[.slice none 0 0, .slice none 0 0, .bool false] 60))); (try simp only [World.size_alloc] at h); exact Kd.R_mono h (fun k hk => by subst hk; simp; try omega)), (by have h := (Kd.R_below (R_mk Value.bool (fun _ => rfl) false 4 n 0 ((w7.drew).alloc (.cells (madeCells #[.int .i64 0] n) 2)) (Nat.zero_le _) (by omega)) ((Below.refl _ _).alloc (Nat.le_refl _) (.cells #[.slice none 0 0, .slice none 0 0, .bool false] 60))); (try simp only [World.size_alloc] at h); exact Kd.R_mono h (fun k hk => by subst hk; simp; try omega)), (by have h := heap_alloc_new (((w7.drew).alloc (.cells (madeCells #[.int .i64 0] n) 2)).alloc (.cells (madeCells #[.bool false] n) 4)) (.cells #[.slice none 0 0, .slice none 0 0, .bool false] 60); (try simp only [World.size_alloc] at h); exact h), ((((Below.refl w7.heap.size w7).drew.alloc (Nat.le_refl _) _).alloc (by simp) _).alloc (by simp; omega) _), by show w7.heap.size ≤ w7.heap.size + 1 + 1; omega⟩)
      · skip
        refine value_ (w1 := ?_) (v := ?_) (by rfl) rfl ?_ ?_
        rotate_left 2
        · go_simp
          constructor
          · rfl
          · rfl
        refine hK.out _ _ trivial (fun hHeld => ?_)
        clear hK K
        refine norm_ (a' := ?_) ?_ ?_
        rotate_left
        · show Act.put _ (some 14) _ = _
          simp only [Act.put, List.setIfInBounds_toArray, List.set_cons_zero, List.set_cons_succ, i64_w, i32_w]
          rfl
        refine one_ (i := 3) (N := some 58) #[true, true, true, true, false, true, false] rfl rfl (by kernel_rfl) (by decide) (fun K hK => ?_)
        refine value_ (w1 := ?_) (v := ?_) (by rfl) rfl ?_ ?_
        rotate_left 2
        · go_simp
          constructor
          · rfl
          · rfl
        refine hK.out _ _ trivial (fun hHeld => ?_)
        clear hK K
        refine norm_ (a' := ?_) ?_ ?_
        rotate_left
        · show Act.put _ (some 58) _ = _
          simp only [Act.put, List.setIfInBounds_toArray, List.set_cons_zero, List.set_cons_succ, i64_w, i32_w]
          rfl
        refine pure_ (i := 4) (N := some 59) (v := ?_) (a' := ?_) #[true, true, true, true, true, true, false] rfl rfl (by kernel_rfl) (fun _ _ _ h => h) (Or.inl ⟨by rfl, ?_⟩) ?_ ?_
        rotate_left
        · intro w'
          go_simp
          with_reducible rfl
        rotate_left
        · simp only [Act.put, List.setIfInBounds_toArray, List.set_cons_zero, List.set_cons_succ, i64_w, i32_w]
          rfl
        exact norm_ (by simp only [putAll, Act.put, List.setIfInBounds_toArray, List.set_cons_zero, List.set_cons_succ]) (hCont (w7.heap.size, w7.heap.size + 1 + 1, w7.heap.size + 1) _ ⟨(by have h := (Kd.R_below (Kd.R_below (R_mk (Value.int .i64) (fun _ => rfl) (0 : Int) 2 n 0 (w7.drew) (Nat.zero_le _) (by omega)) ((Below.refl _ _).alloc (Nat.le_refl _) (.cells #[.slice none 0 0, .slice none 0 0, .bool false] 60))) ((Below.refl _ _).alloc (Nat.le_refl _) (.cells (madeCells #[.bool false] n) 4))); (try simp only [World.size_alloc] at h); exact Kd.R_mono h (fun k hk => by subst hk; simp; try omega)), (by have h := (R_mk Value.bool (fun _ => rfl) false 4 n 0 (((w7.drew).alloc (.cells (madeCells #[.int .i64 0] n) 2)).alloc (.cells #[.slice none 0 0, .slice none 0 0, .bool false] 60)) (Nat.zero_le _) (by omega)); (try simp only [World.size_alloc] at h); exact Kd.R_mono h (fun k hk => by subst hk; simp; try omega)), (by have h := heap_alloc_new ((w7.drew).alloc (.cells (madeCells #[.int .i64 0] n) 2)) (.cells #[.slice none 0 0, .slice none 0 0, .bool false] 60); (try simp only [World.size_alloc] at h); exact (Below.heap_alloc _ _ _ (by simp)).trans h), ((((Below.refl w7.heap.size w7).drew.alloc (Nat.le_refl _) _).alloc (by simp) _).alloc (by simp; omega) _), by show w7.heap.size ≤ w7.heap.size + 1; omega⟩)
    · skip
      refine value_ (w1 := ?_) (v := ?_) (by rfl) rfl ?_ ?_
      rotate_left 2
      · go_simp
        constructor
        · rfl
        · rfl
      refine hK.out _ _ trivial (fun hHeld => ?_)
      clear hK K
      refine norm_ (a' := ?_) ?_ ?_
      rotate_left
      · show Act.put _ (some 58) _ = _
        simp only [Act.put, List.setIfInBounds_toArray, List.set_cons_zero, List.set_cons_succ, i64_w, i32_w]
        rfl
      refine two_ (i := 1) (j := 5) (Ni := some 56) (Nj := some 14) #[true, true, true, true, false, false, false] #[true, false, true, true, false, true, false] rfl rfl rfl rfl (by kernel_rfl) (by decide) (by decide) (fun K hK => ?_) (fun K hK => ?_)
      · skip
        refine value_ (w1 := ?_) (v := ?_) (by rfl) rfl ?_ ?_
        rotate_left 2
        · go_simp
          constructor
          · rfl
          · rfl
        refine hK.out _ _ trivial (fun hHeld => ?_)
        clear hK K
        refine norm_ (a' := ?_) ?_ ?_
        rotate_left
        · show Act.put _ (some 56) _ = _
          simp only [Act.put, List.setIfInBounds_toArray, List.set_cons_zero, List.set_cons_succ, i64_w, i32_w]
          rfl
        refine pure_ (i := 4) (N := some 59) (v := ?_) (a' := ?_) #[true, true, true, true, true, false, false] rfl rfl (by kernel_rfl) (fun _ _ _ h => h) (Or.inl ⟨by rfl, ?_⟩) ?_ ?_
        rotate_left
        · intro w'
          go_simp
          with_reducible rfl
        rotate_left
        · simp only [Act.put, List.setIfInBounds_toArray, List.set_cons_zero, List.set_cons_succ, i64_w, i32_w]
          rfl
        refine one_ (i := 5) (N := some 14) #[true, true, true, true, true, true, false] rfl rfl (by kernel_rfl) (by decide) (fun K hK => ?_)
        refine value_ (w1 := ?_) (v := ?_) (by rfl) rfl ?_ ?_
        rotate_left 2
        · go_simp
          constructor
          · rfl
          · rfl
        refine hK.out _ _ trivial (fun hHeld => ?_)
        clear hK K
        refine norm_ (a' := ?_) ?_ ?_
        rotate_left
        · show Act.put _ (some 14) _ = _
          simp only [Act.put, List.setIfInBounds_toArray, List.set_cons_zero, List.set_cons_succ, i64_w, i32_w]
          rfl
        exact norm_ (by simp only [putAll, Act.put, List.setIfInBounds_toArray, List.set_cons_zero, List.set_cons_succ]) (hCont (w7.heap.size + 1, w7.heap.size, w7.heap.size + 1 + 1) _ ⟨(by have h := (Kd.R_below (R_mk (Value.int .i64) (fun _ => rfl) (0 : Int) 2 n 0 ((w7.drew).alloc (.cells (madeCells #[.bool false] n) 4)) (Nat.zero_le _) (by omega)) ((Below.refl _ _).alloc (Nat.le_refl _) (.cells #[.slice none 0 0, .slice none 0 0, .bool false] 60))); (try simp only [World.size_alloc] at h); exact Kd.R_mono h (fun k hk => by subst hk; simp; try omega)), (by have h := (Kd.R_below (Kd.R_below (R_mk Value.bool (fun _ => rfl) false 4 n 0 (w7.drew) (Nat.zero_le _) (by omega)) ((Below.refl _ _).alloc (Nat.le_refl _) (.cells (madeCells #[.int .i64 0] n) 2))) ((Below.refl _ _).alloc (Nat.le_refl _) (.cells #[.slice none 0 0, .slice none 0 0, .bool false] 60))); (try simp only [World.size_alloc] at h); exact Kd.R_mono h (fun k hk => by subst hk; simp; try omega)), (by have h := heap_alloc_new (((w7.drew).alloc (.cells (madeCells #[.bool false] n) 4)).alloc (.cells (madeCells #[.int .i64 0] n) 2)) (.cells #[.slice none 0 0, .slice none 0 0, .bool false] 60); (try simp only [World.size_alloc] at h); exact h), ((((Below.refl w7.heap.size w7).drew.alloc (Nat.le_refl _) _).alloc (by simp) _).alloc (by simp; omega) _), by show w7.heap.size ≤ w7.heap.size + 1 + 1; omega⟩)
      · skip
        refine value_ (w1 := ?_) (v := ?_) (by rfl) rfl ?_ ?_
        rotate_left 2
        · go_simp
          constructor
          · rfl
          · rfl
        refine hK.out _ _ trivial (fun hHeld => ?_)
        clear hK K
        refine norm_ (a' := ?_) ?_ ?_
        rotate_left
        · show Act.put _ (some 14) _ = _
          simp only [Act.put, List.setIfInBounds_toArray, List.set_cons_zero, List.set_cons_succ, i64_w, i32_w]
          rfl
        refine one_ (i := 1) (N := some 56) #[true, true, true, true, false, true, false] rfl rfl (by kernel_rfl) (by decide) (fun K hK => ?_)
        refine value_ (w1 := ?_) (v := ?_) (by rfl) rfl ?_ ?_
        rotate_left 2
        · go_simp
          constructor
          · rfl
          · rfl
        refine hK.out _ _ trivial (fun hHeld => ?_)
        clear hK K
        refine norm_ (a' := ?_) ?_ ?_
        rotate_left
        · show Act.put _ (some 56) _ = _
          simp only [Act.put, List.setIfInBounds_toArray, List.set_cons_zero, List.set_cons_succ, i64_w, i32_w]
          rfl
        refine pure_ (i := 4) (N := some 59) (v := ?_) (a' := ?_) #[true, true, true, true, true, true, false] rfl rfl (by kernel_rfl) (fun _ _ _ h => h) (Or.inl ⟨by rfl, ?_⟩) ?_ ?_
        rotate_left
        · intro w'
          go_simp
          with_reducible rfl
        rotate_left
        · simp only [Act.put, List.setIfInBounds_toArray, List.set_cons_zero, List.set_cons_succ, i64_w, i32_w]
          rfl
        exact norm_ (by simp only [putAll, Act.put, List.setIfInBounds_toArray, List.set_cons_zero, List.set_cons_succ]) (hCont (w7.heap.size + 1 + 1, w7.heap.size, w7.heap.size + 1) _ ⟨(by have h := (R_mk (Value.int .i64) (fun _ => rfl) (0 : Int) 2 n 0 (((w7.drew).alloc (.cells (madeCells #[.bool false] n) 4)).alloc (.cells #[.slice none 0 0, .slice none 0 0, .bool false] 60)) (Nat.zero_le _) (by omega)); (try simp only [World.size_alloc] at h); exact Kd.R_mono h (fun k hk => by subst hk; simp; try omega)), (by have h := (Kd.R_below (Kd.R_below (R_mk Value.bool (fun _ => rfl) false 4 n 0 (w7.drew) (Nat.zero_le _) (by omega)) ((Below.refl _ _).alloc (Nat.le_refl _) (.cells #[.slice none 0 0, .slice none 0 0, .bool false] 60))) ((Below.refl _ _).alloc (Nat.le_refl _) (.cells (madeCells #[.int .i64 0] n) 2))); (try simp only [World.size_alloc] at h); exact Kd.R_mono h (fun k hk => by subst hk; simp; try omega)), (by have h := heap_alloc_new ((w7.drew).alloc (.cells (madeCells #[.bool false] n) 4)) (.cells #[.slice none 0 0, .slice none 0 0, .bool false] 60); (try simp only [World.size_alloc] at h); exact (Below.heap_alloc _ _ _ (by simp)).trans h), ((((Below.refl w7.heap.size w7).drew.alloc (Nat.le_refl _) _).alloc (by simp) _).alloc (by simp; omega) _), by show w7.heap.size ≤ w7.heap.size + 1; omega⟩)
    · skip
      refine value_ (w1 := ?_) (v := ?_) (by rfl) rfl ?_ ?_
      rotate_left 2
      · go_simp
        constructor
        · rfl
        · rfl
      refine hK.out _ _ trivial (fun hHeld => ?_)
      clear hK K
      refine norm_ (a' := ?_) ?_ ?_
      rotate_left
      · show Act.put _ (some 14) _ = _
        simp only [Act.put, List.setIfInBounds_toArray, List.set_cons_zero, List.set_cons_succ, i64_w, i32_w]
        rfl
      refine two_ (i := 1) (j := 3) (Ni := some 56) (Nj := some 58) #[true, true, true, false, false, true, false] #[true, false, true, true, false, true, false] rfl rfl rfl rfl (by kernel_rfl) (by decide) (by decide) (fun K hK => ?_) (fun K hK => ?_)
      · skip
        refine value_ (w1 := ?_) (v := ?_) (by rfl) rfl ?_ ?_
        rotate_left 2
        · go_simp
          constructor
          · rfl
          · rfl
        refine hK.out _ _ trivial (fun hHeld => ?_)
        clear hK K
        refine norm_ (a' := ?_) ?_ ?_
        rotate_left
        · show Act.put _ (some 56) _ = _
          simp only [Act.put, List.setIfInBounds_toArray, List.set_cons_zero, List.set_cons_succ, i64_w, i32_w]
          rfl
        refine one_ (i := 3) (N := some 58) #[true, true, true, true, false, true, false] rfl rfl (by kernel_rfl) (by decide) (fun K hK => ?_)
        refine value_ (w1 := ?_) (v := ?_) (by rfl) rfl ?_ ?_
        rotate_left 2
        · go_simp
          constructor
          · rfl
          · rfl
        refine hK.out _ _ trivial (fun hHeld => ?_)
        clear hK K
        refine norm_ (a' := ?_) ?_ ?_
        rotate_left
        · show Act.put _ (some 58) _ = _
          simp only [Act.put, List.setIfInBounds_toArray, List.set_cons_zero, List.set_cons_succ, i64_w, i32_w]
          rfl
        refine pure_ (i := 4) (N := some 59) (v := ?_) (a' := ?_) #[true, true, true, true, true, true, false] rfl rfl (by kernel_rfl) (fun _ _ _ h => h) (Or.inl ⟨by rfl, ?_⟩) ?_ ?_
        rotate_left
        · intro w'
          go_simp
          with_reducible rfl
        rotate_left
        · simp only [Act.put, List.setIfInBounds_toArray, List.set_cons_zero, List.set_cons_succ, i64_w, i32_w]
          rfl
        exact norm_ (by simp only [putAll, Act.put, List.setIfInBounds_toArray, List.set_cons_zero, List.set_cons_succ]) (hCont (w7.heap.size + 1, w7.heap.size + 1 + 1, w7.heap.size) _ ⟨(by have h := (Kd.R_below (R_mk (Value.int .i64) (fun _ => rfl) (0 : Int) 2 n 0 ((w7.drew).alloc (.cells #[.slice none 0 0, .slice none 0 0, .bool false] 60)) (Nat.zero_le _) (by omega)) ((Below.refl _ _).alloc (Nat.le_refl _) (.cells (madeCells #[.bool false] n) 4))); (try simp only [World.size_alloc] at h); exact Kd.R_mono h (fun k hk => by subst hk; simp; try omega)), (by have h := (R_mk Value.bool (fun _ => rfl) false 4 n 0 (((w7.drew).alloc (.cells #[.slice none 0 0, .slice none 0 0, .bool false] 60)).alloc (.cells (madeCells #[.int .i64 0] n) 2)) (Nat.zero_le _) (by omega)); (try simp only [World.size_alloc] at h); exact Kd.R_mono h (fun k hk => by subst hk; simp; try omega)), (by have h := heap_alloc_new (w7.drew) (.cells #[.slice none 0 0, .slice none 0 0, .bool false] 60); (try simp only [World.size_alloc] at h); exact (Below.heap_alloc _ _ _ (by simp; omega)).trans ((Below.heap_alloc _ _ _ (by simp)).trans h)), ((((Below.refl w7.heap.size w7).drew.alloc (Nat.le_refl _) _).alloc (by simp) _).alloc (by simp; omega) _), by show w7.heap.size ≤ w7.heap.size; omega⟩)
      · skip
        refine value_ (w1 := ?_) (v := ?_) (by rfl) rfl ?_ ?_
        rotate_left 2
        · go_simp
          constructor
          · rfl
          · rfl
        refine hK.out _ _ trivial (fun hHeld => ?_)
        clear hK K
        refine norm_ (a' := ?_) ?_ ?_
        rotate_left
        · show Act.put _ (some 58) _ = _
          simp only [Act.put, List.setIfInBounds_toArray, List.set_cons_zero, List.set_cons_succ, i64_w, i32_w]
          rfl
        refine one_ (i := 1) (N := some 56) #[true, true, true, true, false, true, false] rfl rfl (by kernel_rfl) (by decide) (fun K hK => ?_)
        refine value_ (w1 := ?_) (v := ?_) (by rfl) rfl ?_ ?_
        rotate_left 2
        · go_simp
          constructor
          · rfl
          · rfl
        refine hK.out _ _ trivial (fun hHeld => ?_)
        clear hK K
        refine norm_ (a' := ?_) ?_ ?_
        rotate_left
        · show Act.put _ (some 56) _ = _
          simp only [Act.put, List.setIfInBounds_toArray, List.set_cons_zero, List.set_cons_succ, i64_w, i32_w]
          rfl
        refine pure_ (i := 4) (N := some 59) (v := ?_) (a' := ?_) #[true, true, true, true, true, true, false] rfl rfl (by kernel_rfl) (fun _ _ _ h => h) (Or.inl ⟨by rfl, ?_⟩) ?_ ?_
        rotate_left
        · intro w'
          go_simp
          with_reducible rfl
        rotate_left
        · simp only [Act.put, List.setIfInBounds_toArray, List.set_cons_zero, List.set_cons_succ, i64_w, i32_w]
          rfl
        exact norm_ (by simp only [putAll, Act.put, List.setIfInBounds_toArray, List.set_cons_zero, List.set_cons_succ]) (hCont (w7.heap.size + 1 + 1, w7.heap.size + 1, w7.heap.size) _ ⟨(by have h := (R_mk (Value.int .i64) (fun _ => rfl) (0 : Int) 2 n 0 (((w7.drew).alloc (.cells #[.slice none 0 0, .slice none 0 0, .bool false] 60)).alloc (.cells (madeCells #[.bool false] n) 4)) (Nat.zero_le _) (by omega)); (try simp only [World.size_alloc] at h); exact Kd.R_mono h (fun k hk => by subst hk; simp; try omega)), (by have h := (Kd.R_below (R_mk Value.bool (fun _ => rfl) false 4 n 0 ((w7.drew).alloc (.cells #[.slice none 0 0, .slice none 0 0, .bool false] 60)) (Nat.zero_le _) (by omega)) ((Below.refl _ _).alloc (Nat.le_refl _) (.cells (madeCells #[.int .i64 0] n) 2))); (try simp only [World.size_alloc] at h); exact Kd.R_mono h (fun k hk => by subst hk; simp; try omega)), (by have h := heap_alloc_new (w7.drew) (.cells #[.slice none 0 0, .slice none 0 0, .bool false] 60); (try simp only [World.size_alloc] at h); exact (Below.heap_alloc _ _ _ (by simp; omega)).trans ((Below.heap_alloc _ _ _ (by simp)).trans h)), ((((Below.refl w7.heap.size w7).drew.alloc (Nat.le_refl _) _).alloc (by simp) _).alloc (by simp; omega) _), by show w7.heap.size ≤ w7.heap.size; omega⟩)
  rintro ⟨xa, xb, X⟩ w8 ⟨hxa, hxb, hX, hb78, hX7⟩
  obtain ⟨z0, z1, z2⟩ := box3 hX
  have zf0 := Lib.frozen_of_heap hX 0
  have zf1 := Lib.frozen_of_heap hX 1
  have zf2 := Lib.frozen_of_heap hX 2
  have HXA := Lib.hid hxa
  have HXB := Lib.hid hxb
  have HX0 := Lib.hid hX
  have HB78 := Lib.hid hb78
  have HX7 := Lib.hid hX7
  have hHeld := trivial
  clear hxa hxb hX hb78 hX7
  refine norm_ (a' := ?_) ?_ ?_
  rotate_left
  · simp only [putAll, Act.put, List.setIfInBounds_toArray, List.set_cons_zero, List.set_cons_succ]
    rfl
  refine last_ (i := 6) (N := none) #[true, true, true, true, true, true, true] rfl rfl (by kernel_rfl) (by decide) (fun K hK => ?_)
  refine skip_ (w1 := ?_) (by rfl) rfl ?_ ?_
  rotate_left
  · go_simp
    rfl
  refine hK.out _ _ ?_
  clear hK K
  refine done_ (by kernel_rfl) ?_
  obtain ⟨w9, hw9⟩ : ∃ w9, w9 = ((w8.setCell ⟨X, 0, none⟩ (.slice (some ⟨xa, 0, none⟩) n n)).setCell ⟨X, 1, none⟩ (.slice (some ⟨xb, 0, none⟩) n n)).setCell ⟨X, 2, none⟩ (.bool true) := ⟨_, rfl⟩
  have hX9 : XBox w9 X n (first n) := ⟨xa, xb, n, n, by rw [hw9]; exact set3 HX0.out _ _ _, by rw [hw9]; exact Kd.R_move HXA.out (fun k hk => far3 hk _ _ _), by rw [hw9]; exact Kd.R_move HXB.out (fun k hk => far3 hk _ _ _)⟩
  have HB79 : Hid (Below w7.heap.size w7 w9) := Lib.hid (by rw [hw9]; exact below3 HB78.out HX7.out _ _ _)
  have HX9 := Lib.hid hX9
  rw [← hw9]
  clear hw9 hX9 HXA HXB HX0 HB78 z0 z1 z2 zf0 zf1 zf2 m2 m4 hHeld
  have hgX : X ≠ g ∧ X ≠ gy ∧ w7.heap.size ≤ X := by have := HGL.out; have h9 : w7.heap.size ≤ X := HX7.out; omega
  have HGX := Lib.hid hgX
  clear hgX
  go_wp2_with fail
  go_loopw [4, 15] (fun r i wr => ∃ (k : Nat) (x : Sys), k ≤ ops.length ∧ i = .int .i64 k ∧ r = .bool false ∧ Hid (x.Ok n) ∧ Hid (runS p x k (ops.drop k) = (y, at')) ∧ Hid (XBox wr X n x) ∧ Hid (Below w7.heap.size w7 wr)) (fun _ i _ => ops.length - (intOf i).toNat)
  case atStart => exact ⟨0, first n, Nat.zero_le _, rfl, rfl, Lib.hid (Sys.Ok.first n), HRU, HX9, HB79⟩
  case round =>
    obtain ⟨k, x, hk, rfl, rfl, HX, HRr, HXB, HBr⟩ := hrel
    obtain ⟨xa, xb, xca, xcb, hXb, hRa, hRb⟩ := HXB.out
    by_cases hlt : k < ops.length
    · have hd := drop_at ops k hlt
      have hoo := okOps_at HOK.out k hlt
      obtain ⟨ad, rfl, o0, o1⟩ := C_opN (Kd.C_below HOPS7.out HBr.out) k hlt rfl
      obtain ⟨o, ho⟩ : ∃ o, ops[k] = o := ⟨_, rfl⟩
      rw [ho] at o0 o1 hd hoo
      have hrun := HRr.out
      rw [hd, runS] at hrun
      have hfr := fun hk hf => read_fresh (p := p) (x := x) (o := o) HP.out HX.out hoo.2.2.1 hoo.2.2.2.1 hk hf
      have hwr := fun hk j hj => write_fresh (p := p) (x := x) (o := o) HP.out HX.out hoo.2.2.1 hoo.2.2.2.1 hk j hj
      have hzok := HX.out.step HP.out o hoo.2.2.1 hoo.2.2.2.1
      have hoo' : okOp o n = true := by simp [okOp, inR]; omega
      have HSS := Lib.hid (fun (w' : World) (hw : Below w7.heap.size w7 w') A B c d (hA : Kd.C (Kd.int .i64) w' A n x.cs) (hB : Kd.C Kd.bool w' B n x.fs) => StepSystem p _ A B n c d x o w' (HV7.out.below hw) HP.out hnn hn3 HX.out hA hB hoo')
      obtain ⟨Z, hZ⟩ : ∃ Z, stepS p x o = Z := ⟨_, rfl⟩
      rw [hZ] at hrun hfr hwr hzok HSS
      obtain ⟨z, fl, zn, zk⟩ := Z
      simp only at hrun hfr hwr hzok HSS
      have HRUN := Lib.hid hrun
      have HO := Lib.hid ho
      have HFR := Lib.hid hfr
      have HWR := Lib.hid hwr
      have HZO := Lib.hid hzok
      have hbkr := (HBr.out.block g HGL.out.1).trans HBLK7.out
      obtain ⟨p0, p1, p2, p3, p4⟩ := box5 hbkr
      obtain ⟨s0, s1, s2⟩ := box3 hXb
      obtain ⟨ok, hok⟩ : ∃ q, o.kind = q := ⟨_, rfl⟩
      obtain ⟨oc, hoc⟩ : ∃ q, o.cache = q := ⟨_, rfl⟩
      rw [hok] at o0 hoo
      rw [hoc] at o1 hoo
      have HOO := Lib.hid hoo
      have HOKC := Lib.hid (And.intro hok hoc)
      have HRA := Lib.hid hRa
      have HRB := Lib.hid hRb
      have HXb := Lib.hid hXb
      have k0 : (0 : Int) ≤ (k : Int) := by omega
      have k1 : (k : Int) < (ops.length : Int) := by omega
      have k2 : ops.length ≤ 11 := hlen
      obtain ⟨xm, hxm⟩ : ∃ m, x.m = m := ⟨_, rfl⟩
      rw [hxm] at s2 HXb HSS
      rw [hok, hoc] at HSS
      clear hrun hfr hwr hzok hbkr hok hoc hoo hRa hRb hXb hd ho hZ hoo' hxm
      go_wp2_with fail
      have HD1 : Hid (Below w7.heap.size w7 wr.drew) := Lib.hid HBr.out.drew
      have HD2 : Hid (Below w7.heap.size w7 (wr.alloc (.cells #[.slice none 0 0, .slice none 0 0, .bool false] 60)).drew) := Lib.hid (HBr.out.alloc HBr.out.size _).drew
      have HC1A : Hid (Kd.C (Kd.int .i64) wr.drew (some ⟨xa, 0, none⟩) n x.cs) := Lib.hid (Kd.C_drew (R_len HRA.out).2.2)
      have HC1B : Hid (Kd.C Kd.bool wr.drew (some ⟨xb, 0, none⟩) n x.fs) := Lib.hid (Kd.C_drew (R_len HRB.out).2.2)
      have HC2A := Lib.hid (Kd.C_drew (Kd.C_alloc (R_len HRA.out).2.2 (.cells #[.slice none 0 0, .slice none 0 0, .bool false] 60)))
      have HC2B := Lib.hid (Kd.C_drew (Kd.C_alloc (R_len HRB.out).2.2 (.cells #[.slice none 0 0, .slice none 0 0, .bool false] 60)))
      refine start_ (n := 15) (S := fun w' => w'.cell? ⟨g, 0, none⟩ = some (.slice (AA 0) (p.tab 0).length (cc 0)) ∧ w'.cell? ⟨g, 1, none⟩ = some (.slice (AA 1) (p.tab 1).length (cc 1)) ∧ w'.cell? ⟨g, 2, none⟩ = some (.slice (AA 2) (p.tab 2).length (cc 2)) ∧ w'.cell? ⟨g, 3, none⟩ = some (.slice (AA 3) (p.tab 3).length (cc 3)) ∧ w'.cell? ⟨g, 4, none⟩ = some (.slice (AA 4) (p.tab 4).length (cc 4)) ∧ w'.cell? ⟨X, 0, none⟩ = some (.slice (some ⟨xa, 0, none⟩) n xca) ∧ w'.cell? ⟨X, 1, none⟩ = some (.slice (some ⟨xb, 0, none⟩) n xcb) ∧ w'.cell? ⟨X, 2, none⟩ = some (.bool xm) ∧ w'.cell? (ad.add (k * 2)) = some (.int .i64 ok) ∧ w'.cell? ⟨(ad.add (k * 2)).block, (ad.add (k * 2)).off + 1, none⟩ = some (.int .i64 oc)) (ds := [12]) #[false, false, false, false, false, false, false, false, false, false, false, false, false, false, false] (by kernel_rfl) rfl rfl ⟨p0, p1, p2, p3, p4, s0, s1, s2, o0, o1⟩ (fun hHeld => ?_)
      refine pure_ (i := 2) (N := some 69) (v := ?_) (a' := ?_) #[false, false, true, false, false, false, false, false, false, false, false, false, false, false, false] rfl rfl (by kernel_rfl) (fun _ _ _ h => h) (Or.inl ⟨by rfl, ?_⟩) ?_ ?_
      rotate_left
      · intro w'
        go_simp
        with_reducible rfl
      rotate_left
      · simp only [Act.put, List.setIfInBounds_toArray, List.set_cons_zero, List.set_cons_succ, i64_w, i32_w]
        rfl
      refine pure_ (i := 3) (N := some 70) (v := ?_) (a' := ?_) #[false, false, true, true, false, false, false, false, false, false, false, false, false, false, false] rfl rfl (by kernel_rfl) (fun _ _ _ h => h) (Or.inl ⟨by rfl, ?_⟩) ?_ ?_
      rotate_left
      · intro w'
        go_simp
        with_reducible rfl
      rotate_left
      · simp only [Act.put, List.setIfInBounds_toArray, List.set_cons_zero, List.set_cons_succ, i64_w, i32_w]
        rfl
      refine pure_ (i := 4) (N := some 71) (v := ?_) (a' := ?_) #[false, false, true, true, true, false, false, false, false, false, false, false, false, false, false] rfl rfl (by kernel_rfl) (fun _ _ _ h => h) (Or.inl ⟨by rfl, ?_⟩) ?_ ?_
      rotate_left
      · intro w'
        go_simp
        with_reducible rfl
      rotate_left
      · simp only [Act.put, List.setIfInBounds_toArray, List.set_cons_zero, List.set_cons_succ, i64_w, i32_w]
        rfl
      refine take_ (i := 0) (N := some 67) (v := ?_) (a' := ?_) #[true, false, true, true, true, false, false, false, false, false, false, false, false, false, false] rfl rfl (by kernel_rfl) (fun _ _ _ h => h) (Or.inl ⟨by rfl, ?_⟩) hHeld ?_ ?_
      rotate_left
      · rintro w' ⟨s0, s1, s2, s3, s4, s5, s6, s7, s8, s9⟩
        go_simp
        with_reducible rfl
      rotate_left
      · simp only [Act.put, List.setIfInBounds_toArray, List.set_cons_zero, List.set_cons_succ, i64_w, i32_w]
        rfl
      refine take_ (i := 1) (N := some 68) (v := ?_) (a' := ?_) #[true, true, true, true, true, false, false, false, false, false, false, false, false, false, false] rfl rfl (by kernel_rfl) (fun _ _ _ h => h) (Or.inl ⟨by rfl, ?_⟩) hHeld ?_ ?_
      rotate_left
      · rintro w' ⟨s0, s1, s2, s3, s4, s5, s6, s7, s8, s9⟩
        go_simp
        with_reducible rfl
      rotate_left
      · simp only [Act.put, List.setIfInBounds_toArray, List.set_cons_zero, List.set_cons_succ, i64_w, i32_w]
        rfl
      refine take_ (i := 5) (N := some 72) (v := ?_) (a' := ?_) #[true, true, true, true, true, true, false, false, false, false, false, false, false, false, false] rfl rfl (by kernel_rfl) (fun _ _ _ h => h) (Or.inl ⟨by rfl, ?_⟩) hHeld ?_ ?_
      rotate_left
      · rintro w' ⟨s0, s1, s2, s3, s4, s5, s6, s7, s8, s9⟩
        go_simp
        with_reducible rfl
      rotate_left
      · simp only [Act.put, List.setIfInBounds_toArray, List.set_cons_zero, List.set_cons_succ, i64_w, i32_w]
        rfl
      refine join_ (σ := Nat × Nat × Nat × Nat × Nat) 3 #[true, true, true, true, true, true, true, true, true, true, true, true, false, false, false] (fun s => [(73, .tuple #[.agg #[.slice (some ⟨s.1, 0, none⟩) n s.2.1, .slice (some ⟨s.2.2.1, 0, none⟩) n s.2.2.2.1, .bool z.m], .bool fl, .bool true]), (66, .tuple #[.agg #[.slice (some ⟨s.1, 0, none⟩) n s.2.1, .slice (some ⟨s.2.2.1, 0, none⟩) n s.2.2.2.1, .bool z.m], .bool fl, .bool true]), (74, .agg #[.slice (some ⟨s.1, 0, none⟩) n s.2.1, .slice (some ⟨s.2.2.1, 0, none⟩) n s.2.2.2.1, .bool z.m]), (75, .bool fl), (76, .bool true), (16, .pointer (some ⟨s.2.2.2.2, 0, none⟩))]) (fun s w' => (Kd.int .i64).R 2 w' 0 (fun k => wr.heap.size ≤ k ∧ k ≠ s.2.2.2.2) (.slice (some ⟨s.1, 0, none⟩) n s.2.1) z.cs ∧ Kd.bool.R 4 w' 0 (fun k => wr.heap.size ≤ k ∧ k ≠ s.2.2.2.2) (.slice (some ⟨s.2.2.1, 0, none⟩) n s.2.2.2.1) z.fs ∧ w'.heap[s.2.2.2.2]? = some (.cells #[.slice none 0 0, .slice none 0 0, .bool false] 60 (0, 0)) ∧ Below wr.heap.size wr w' ∧ wr.heap.size ≤ s.2.2.2.2) ?_ ?_
      rotate_left
      · intro hCont
        refine two_ (i := 6) (j := 11) (Ni := some 73) (Nj := some 16) #[true, true, true, true, true, true, true, false, false, false, false, false, false, false, false] #[true, true, true, true, true, true, false, false, false, false, false, true, false, false, false] rfl rfl rfl rfl (by kernel_rfl) (by decide) (by decide) (fun K hK => ?_) (fun K hK => ?_)
        · skip
          refine goes_ Try.func46 (by kernel_rfl) rfl #[.agg #[.slice (AA 0) (p.tab 0).length (cc 0), .slice (AA 1) (p.tab 1).length (cc 1), .slice (AA 2) (p.tab 2).length (cc 2), .slice (AA 3) (p.tab 3).length (cc 3), .slice (AA 4) (p.tab 4).length (cc 4)], .agg #[.slice (some ⟨xa, 0, none⟩) n xca, .slice (some ⟨xb, 0, none⟩) n xcb, .bool xm], .agg #[.int .i64 ok, .int .i64 oc]] (by rfl) rfl rfl (by simp only [List.map_toArray, List.map_cons, List.map_nil]; rfl) ?_
          with_reducible refine (HSS.out _ HD1.out _ _ _ _ HC1A.out HC1B.out).mono ?_
          rintro e w9 ⟨sv, rfl, hsv, hb9⟩
          refine ⟨_, rfl, ?_⟩
          obtain ⟨za, zb, zca, zcb, rfl, hza, hzb⟩ := hsv
          refine hK.out _ _ ⟨(cell_old hb9 (by exact p0)), (cell_old hb9 (by exact p1)), (cell_old hb9 (by exact p2)), (cell_old hb9 (by exact p3)), (cell_old hb9 (by exact p4)), (cell_old hb9 (by exact s0)), (cell_old hb9 (by exact s1)), (cell_old hb9 (by exact s2)), (cell_old hb9 (by exact o0)), (cell_old hb9 (by exact o1))⟩ (fun hHeld => ?_)
          clear hK K
          refine norm_ (a' := ?_) ?_ ?_
          rotate_left
          · show Act.put _ (some 73) _ = _
            simp only [Act.put, List.setIfInBounds_toArray, List.set_cons_zero, List.set_cons_succ, i64_w, i32_w]
            rfl
          refine pure_ (i := 7) (N := some 66) (v := ?_) (a' := ?_) #[true, true, true, true, true, true, true, true, false, false, false, false, false, false, false] rfl rfl (by kernel_rfl) (fun _ _ _ h => h) (Or.inl ⟨by rfl, ?_⟩) ?_ ?_
          rotate_left
          · intro w'
            go_simp
            with_reducible rfl
          rotate_left
          · simp only [Act.put, List.setIfInBounds_toArray, List.set_cons_zero, List.set_cons_succ, i64_w, i32_w]
            rfl
          refine pure_ (i := 8) (N := some 74) (v := ?_) (a' := ?_) #[true, true, true, true, true, true, true, true, true, false, false, false, false, false, false] rfl rfl (by kernel_rfl) (fun _ _ _ h => h) (Or.inl ⟨by rfl, ?_⟩) ?_ ?_
          rotate_left
          · intro w'
            go_simp
            with_reducible rfl
          rotate_left
          · simp only [Act.put, List.setIfInBounds_toArray, List.set_cons_zero, List.set_cons_succ, i64_w, i32_w]
            rfl
          refine pure_ (i := 9) (N := some 75) (v := ?_) (a' := ?_) #[true, true, true, true, true, true, true, true, true, true, false, false, false, false, false] rfl rfl (by kernel_rfl) (fun _ _ _ h => h) (Or.inl ⟨by rfl, ?_⟩) ?_ ?_
          rotate_left
          · intro w'
            go_simp
            with_reducible rfl
          rotate_left
          · simp only [Act.put, List.setIfInBounds_toArray, List.set_cons_zero, List.set_cons_succ, i64_w, i32_w]
            rfl
          refine pure_ (i := 10) (N := some 76) (v := ?_) (a' := ?_) #[true, true, true, true, true, true, true, true, true, true, true, false, false, false, false] rfl rfl (by kernel_rfl) (fun _ _ _ h => h) (Or.inl ⟨by rfl, ?_⟩) ?_ ?_
          rotate_left
          · intro w'
            go_simp
            with_reducible rfl
          rotate_left
          · simp only [Act.put, List.setIfInBounds_toArray, List.set_cons_zero, List.set_cons_succ, i64_w, i32_w]
            rfl
          refine one_ (i := 11) (N := some 16) #[true, true, true, true, true, true, true, true, true, true, true, true, false, false, false] rfl rfl (by kernel_rfl) (by decide) (fun K hK => ?_)
          refine value_ (w1 := ?_) (v := ?_) (by rfl) rfl ?_ ?_
          rotate_left 2
          · go_simp
            constructor
            · rfl
            · rfl
          refine hK.out _ _ ⟨(cell_old ((Below.refl _ _).alloc (Nat.le_refl _) (.cells #[.slice none 0 0, .slice none 0 0, .bool false] 60)) (cell_old hb9 (by exact p0))), (cell_old ((Below.refl _ _).alloc (Nat.le_refl _) (.cells #[.slice none 0 0, .slice none 0 0, .bool false] 60)) (cell_old hb9 (by exact p1))), (cell_old ((Below.refl _ _).alloc (Nat.le_refl _) (.cells #[.slice none 0 0, .slice none 0 0, .bool false] 60)) (cell_old hb9 (by exact p2))), (cell_old ((Below.refl _ _).alloc (Nat.le_refl _) (.cells #[.slice none 0 0, .slice none 0 0, .bool false] 60)) (cell_old hb9 (by exact p3))), (cell_old ((Below.refl _ _).alloc (Nat.le_refl _) (.cells #[.slice none 0 0, .slice none 0 0, .bool false] 60)) (cell_old hb9 (by exact p4))), (cell_old ((Below.refl _ _).alloc (Nat.le_refl _) (.cells #[.slice none 0 0, .slice none 0 0, .bool false] 60)) (cell_old hb9 (by exact s0))), (cell_old ((Below.refl _ _).alloc (Nat.le_refl _) (.cells #[.slice none 0 0, .slice none 0 0, .bool false] 60)) (cell_old hb9 (by exact s1))), (cell_old ((Below.refl _ _).alloc (Nat.le_refl _) (.cells #[.slice none 0 0, .slice none 0 0, .bool false] 60)) (cell_old hb9 (by exact s2))), (cell_old ((Below.refl _ _).alloc (Nat.le_refl _) (.cells #[.slice none 0 0, .slice none 0 0, .bool false] 60)) (cell_old hb9 (by exact o0))), (cell_old ((Below.refl _ _).alloc (Nat.le_refl _) (.cells #[.slice none 0 0, .slice none 0 0, .bool false] 60)) (cell_old hb9 (by exact o1)))⟩ (fun hHeld => ?_)
          clear hK K
          refine norm_ (a' := ?_) ?_ ?_
          rotate_left
          · show Act.put _ (some 16) _ = _
            simp only [Act.put, List.setIfInBounds_toArray, List.set_cons_zero, List.set_cons_succ, i64_w, i32_w]
            rfl
          exact norm_ (by simp only [putAll, Act.put, List.setIfInBounds_toArray, List.set_cons_zero, List.set_cons_succ]) (hCont (za, zca, zb, zcb, w9.heap.size) _ ⟨Kd.R_mono (Kd.R_below (Kd.R_bound hza) ((Below.refl _ _).alloc (Nat.le_refl _) (.cells #[.slice none 0 0, .slice none 0 0, .bool false] 60))) (fun k hk => by have h8 : wr.heap.size ≤ k := hk.1; have h9 : k < w9.heap.size := hk.2.2.1; show wr.heap.size ≤ k ∧ k ≠ w9.heap.size; omega), Kd.R_mono (Kd.R_below (Kd.R_bound hzb) ((Below.refl _ _).alloc (Nat.le_refl _) (.cells #[.slice none 0 0, .slice none 0 0, .bool false] 60))) (fun k hk => by have h8 : wr.heap.size ≤ k := hk.1; have h9 : k < w9.heap.size := hk.2.2.1; show wr.heap.size ≤ k ∧ k ≠ w9.heap.size; omega), heap_alloc_new w9 _, ((Below.refl wr.heap.size wr).drew.trans hb9).alloc (by exact hb9.size) _, by exact hb9.size⟩)
        · skip
          refine value_ (w1 := ?_) (v := ?_) (by rfl) rfl ?_ ?_
          rotate_left 2
          · go_simp
            constructor
            · rfl
            · rfl
          refine hK.out _ _ ⟨(cell_old ((Below.refl _ _).alloc (Nat.le_refl _) (.cells #[.slice none 0 0, .slice none 0 0, .bool false] 60)) (by exact p0)), (cell_old ((Below.refl _ _).alloc (Nat.le_refl _) (.cells #[.slice none 0 0, .slice none 0 0, .bool false] 60)) (by exact p1)), (cell_old ((Below.refl _ _).alloc (Nat.le_refl _) (.cells #[.slice none 0 0, .slice none 0 0, .bool false] 60)) (by exact p2)), (cell_old ((Below.refl _ _).alloc (Nat.le_refl _) (.cells #[.slice none 0 0, .slice none 0 0, .bool false] 60)) (by exact p3)), (cell_old ((Below.refl _ _).alloc (Nat.le_refl _) (.cells #[.slice none 0 0, .slice none 0 0, .bool false] 60)) (by exact p4)), (cell_old ((Below.refl _ _).alloc (Nat.le_refl _) (.cells #[.slice none 0 0, .slice none 0 0, .bool false] 60)) (by exact s0)), (cell_old ((Below.refl _ _).alloc (Nat.le_refl _) (.cells #[.slice none 0 0, .slice none 0 0, .bool false] 60)) (by exact s1)), (cell_old ((Below.refl _ _).alloc (Nat.le_refl _) (.cells #[.slice none 0 0, .slice none 0 0, .bool false] 60)) (by exact s2)), (cell_old ((Below.refl _ _).alloc (Nat.le_refl _) (.cells #[.slice none 0 0, .slice none 0 0, .bool false] 60)) (by exact o0)), (cell_old ((Below.refl _ _).alloc (Nat.le_refl _) (.cells #[.slice none 0 0, .slice none 0 0, .bool false] 60)) (by exact o1))⟩ (fun hHeld => ?_)
          clear hK K
          refine norm_ (a' := ?_) ?_ ?_
          rotate_left
          · show Act.put _ (some 16) _ = _
            simp only [Act.put, List.setIfInBounds_toArray, List.set_cons_zero, List.set_cons_succ, i64_w, i32_w]
            rfl
          refine one_ (i := 6) (N := some 73) #[true, true, true, true, true, true, true, false, false, false, false, true, false, false, false] rfl rfl (by kernel_rfl) (by decide) (fun K hK => ?_)
          refine goes_ Try.func46 (by kernel_rfl) rfl #[.agg #[.slice (AA 0) (p.tab 0).length (cc 0), .slice (AA 1) (p.tab 1).length (cc 1), .slice (AA 2) (p.tab 2).length (cc 2), .slice (AA 3) (p.tab 3).length (cc 3), .slice (AA 4) (p.tab 4).length (cc 4)], .agg #[.slice (some ⟨xa, 0, none⟩) n xca, .slice (some ⟨xb, 0, none⟩) n xcb, .bool xm], .agg #[.int .i64 ok, .int .i64 oc]] (by rfl) rfl rfl (by simp only [List.map_toArray, List.map_cons, List.map_nil]; rfl) ?_
          with_reducible refine (HSS.out _ HD2.out _ _ _ _ HC2A.out HC2B.out).mono ?_
          rintro e w9 ⟨sv, rfl, hsv, hb9⟩
          refine ⟨_, rfl, ?_⟩
          obtain ⟨za, zb, zca, zcb, rfl, hza, hzb⟩ := hsv
          refine hK.out _ _ ⟨(cell_old hb9 (cell_old ((Below.refl _ _).alloc (Nat.le_refl _) (.cells #[.slice none 0 0, .slice none 0 0, .bool false] 60)) (by exact p0))), (cell_old hb9 (cell_old ((Below.refl _ _).alloc (Nat.le_refl _) (.cells #[.slice none 0 0, .slice none 0 0, .bool false] 60)) (by exact p1))), (cell_old hb9 (cell_old ((Below.refl _ _).alloc (Nat.le_refl _) (.cells #[.slice none 0 0, .slice none 0 0, .bool false] 60)) (by exact p2))), (cell_old hb9 (cell_old ((Below.refl _ _).alloc (Nat.le_refl _) (.cells #[.slice none 0 0, .slice none 0 0, .bool false] 60)) (by exact p3))), (cell_old hb9 (cell_old ((Below.refl _ _).alloc (Nat.le_refl _) (.cells #[.slice none 0 0, .slice none 0 0, .bool false] 60)) (by exact p4))), (cell_old hb9 (cell_old ((Below.refl _ _).alloc (Nat.le_refl _) (.cells #[.slice none 0 0, .slice none 0 0, .bool false] 60)) (by exact s0))), (cell_old hb9 (cell_old ((Below.refl _ _).alloc (Nat.le_refl _) (.cells #[.slice none 0 0, .slice none 0 0, .bool false] 60)) (by exact s1))), (cell_old hb9 (cell_old ((Below.refl _ _).alloc (Nat.le_refl _) (.cells #[.slice none 0 0, .slice none 0 0, .bool false] 60)) (by exact s2))), (cell_old hb9 (cell_old ((Below.refl _ _).alloc (Nat.le_refl _) (.cells #[.slice none 0 0, .slice none 0 0, .bool false] 60)) (by exact o0))), (cell_old hb9 (cell_old ((Below.refl _ _).alloc (Nat.le_refl _) (.cells #[.slice none 0 0, .slice none 0 0, .bool false] 60)) (by exact o1)))⟩ (fun hHeld => ?_)
          clear hK K
          refine norm_ (a' := ?_) ?_ ?_
          rotate_left
          · show Act.put _ (some 73) _ = _
            simp only [Act.put, List.setIfInBounds_toArray, List.set_cons_zero, List.set_cons_succ, i64_w, i32_w]
            rfl
          refine pure_ (i := 7) (N := some 66) (v := ?_) (a' := ?_) #[true, true, true, true, true, true, true, true, false, false, false, true, false, false, false] rfl rfl (by kernel_rfl) (fun _ _ _ h => h) (Or.inl ⟨by rfl, ?_⟩) ?_ ?_
          rotate_left
          · intro w'
            go_simp
            with_reducible rfl
          rotate_left
          · simp only [Act.put, List.setIfInBounds_toArray, List.set_cons_zero, List.set_cons_succ, i64_w, i32_w]
            rfl
          refine pure_ (i := 8) (N := some 74) (v := ?_) (a' := ?_) #[true, true, true, true, true, true, true, true, true, false, false, true, false, false, false] rfl rfl (by kernel_rfl) (fun _ _ _ h => h) (Or.inl ⟨by rfl, ?_⟩) ?_ ?_
          rotate_left
          · intro w'
            go_simp
            with_reducible rfl
          rotate_left
          · simp only [Act.put, List.setIfInBounds_toArray, List.set_cons_zero, List.set_cons_succ, i64_w, i32_w]
            rfl
          refine pure_ (i := 9) (N := some 75) (v := ?_) (a' := ?_) #[true, true, true, true, true, true, true, true, true, true, false, true, false, false, false] rfl rfl (by kernel_rfl) (fun _ _ _ h => h) (Or.inl ⟨by rfl, ?_⟩) ?_ ?_
          rotate_left
          · intro w'
            go_simp
            with_reducible rfl
          rotate_left
          · simp only [Act.put, List.setIfInBounds_toArray, List.set_cons_zero, List.set_cons_succ, i64_w, i32_w]
            rfl
          refine pure_ (i := 10) (N := some 76) (v := ?_) (a' := ?_) #[true, true, true, true, true, true, true, true, true, true, true, true, false, false, false] rfl rfl (by kernel_rfl) (fun _ _ _ h => h) (Or.inl ⟨by rfl, ?_⟩) ?_ ?_
          rotate_left
          · intro w'
            go_simp
            with_reducible rfl
          rotate_left
          · simp only [Act.put, List.setIfInBounds_toArray, List.set_cons_zero, List.set_cons_succ, i64_w, i32_w]
            rfl
          exact norm_ (by simp only [putAll, Act.put, List.setIfInBounds_toArray, List.set_cons_zero, List.set_cons_succ]) (hCont (za, zca, zb, zcb, wr.heap.size) _ ⟨Kd.R_mono hza (fun k hk => by have h9 : (wr.drew.alloc (.cells #[.slice none 0 0, .slice none 0 0, .bool false] 60)).heap.size ≤ k := hk; simp at h9; show wr.heap.size ≤ k ∧ k ≠ wr.heap.size; omega), Kd.R_mono hzb (fun k hk => by have h9 : (wr.drew.alloc (.cells #[.slice none 0 0, .slice none 0 0, .bool false] 60)).heap.size ≤ k := hk; simp at h9; show wr.heap.size ≤ k ∧ k ≠ wr.heap.size; omega), (hb9.block wr.heap.size (by simp)).trans (heap_alloc_new wr.drew _), ((Below.refl wr.heap.size wr).drew.alloc (Nat.le_refl _) _).trans (hb9.mono (by simp)), Nat.le_refl _⟩)
      rintro ⟨za, zca, zb, zcb, G⟩ w9 ⟨hza, hzb, hG, hb9, hG9⟩
      obtain ⟨z0, z1, z2⟩ := box3 hG
      have zf0 := Lib.frozen_of_heap hG 0
      have zf1 := Lib.frozen_of_heap hG 1
      have zf2 := Lib.frozen_of_heap hG 2
      have HZA := Lib.hid hza
      have HZB := Lib.hid hzb
      have HG0 := Lib.hid hG
      have HB9 := Lib.hid hb9
      have HG9 := Lib.hid hG9
      have hHeld := trivial
      clear hza hzb hG hb9 hG9
      refine norm_ (a' := ?_) ?_ ?_
      rotate_left
      · simp only [putAll, Act.put, List.setIfInBounds_toArray, List.set_cons_zero, List.set_cons_succ]
        rfl
      refine last_ (i := 12) (N := none) #[true, true, true, true, true, true, true, true, true, true, true, true, true, false, false] rfl rfl (by kernel_rfl) (by decide) (fun K hK => ?_)
      refine skip_ (w1 := ?_) (by rfl) rfl ?_ ?_
      rotate_left
      · go_simp
        rfl
      refine hK.out _ _ ?_
      clear hK K
      refine pure_ (i := 13) (N := some 17) (v := ?_) (a' := ?_) #[true, true, true, true, true, true, true, true, true, true, true, true, true, true, false] rfl rfl (by kernel_rfl) (fun _ _ _ h => h) (Or.inl ⟨by rfl, ?_⟩) ?_ ?_
      rotate_left
      · intro w'
        go_simp
        with_reducible rfl
      rotate_left
      · simp only [Act.put, List.setIfInBounds_toArray, List.set_cons_zero, List.set_cons_succ, i64_w, i32_w]
        rfl
      refine pure_ (i := 14) (N := some 18) (v := ?_) (a' := ?_) #[true, true, true, true, true, true, true, true, true, true, true, true, true, true, true] rfl rfl (by kernel_rfl) (fun _ _ _ h => h) (Or.inl ⟨by rfl, ?_⟩) ?_ ?_
      rotate_left
      · intro w'
        go_simp
        with_reducible rfl
      rotate_left
      · simp only [Act.put, List.setIfInBounds_toArray, List.set_cons_zero, List.set_cons_succ, i64_w, i32_w]
        rfl
      refine done_ (by kernel_rfl) ?_
      have hG9 : wr.heap.size ≤ G := HG9.out
      have hGX : G ≠ X := by have := heap_lt HXb.out; omega
      have hGg : G ≠ g := by have := HGL.out; have := HBr.out.size; omega
      obtain ⟨w10, hw10⟩ : ∃ w10, w10 = ((w9.setCell ⟨G, 0, none⟩ (.slice (some ⟨za, 0, none⟩) n zca)).setCell ⟨G, 1, none⟩ (.slice (some ⟨zb, 0, none⟩) n zcb)).setCell ⟨G, 2, none⟩ (.bool z.m) := ⟨_, rfl⟩
      have hzG : w10.heap[G]? = some (.cells #[.slice (some ⟨za, 0, none⟩) n zca, .slice (some ⟨zb, 0, none⟩) n zcb, .bool z.m] 60 (0, 0)) := by rw [hw10]; exact set3 HG0.out _ _ _
      have hzA : (Kd.int .i64).R 2 w10 0 (fun k => k ≠ X) (.slice (some ⟨za, 0, none⟩) n zca) z.cs := by
        rw [hw10]; exact Kd.R_mono (Kd.R_move HZA.out (fun k hk => far3 hk.2 _ _ _)) (fun k hk => by have h8 : wr.heap.size ≤ k := hk.1; have := heap_lt HXb.out; omega)
      have hzB : Kd.bool.R 4 w10 0 (fun k => k ≠ X) (.slice (some ⟨zb, 0, none⟩) n zcb) z.fs := by
        rw [hw10]; exact Kd.R_mono (Kd.R_move HZB.out (fun k hk => far3 hk.2 _ _ _)) (fun k hk => by have h8 : wr.heap.size ≤ k := hk.1; have := heap_lt HXb.out; omega)
      have HBA : Hid (Below wr.heap.size wr w10) := Lib.hid (by rw [hw10]; exact below3 HB9.out HG9.out _ _ _)
      rw [← hw10]
      clear hw10 HZA HZB HG0 HB9 HG9 z0 z1 z2 zf0 zf1 zf2 hHeld
      obtain ⟨z0, z1, z2⟩ := box3 hzG
      have x0f := Lib.frozen_of_heap ((HBA.out.block X (heap_lt HXb.out)).trans HXb.out) 0
      have x1f := Lib.frozen_of_heap ((HBA.out.block X (heap_lt HXb.out)).trans HXb.out) 1
      have x2f := Lib.frozen_of_heap ((HBA.out.block X (heap_lt HXb.out)).trans HXb.out) 2
      obtain ⟨x0, x1, x2⟩ := box3 ((HBA.out.block X (heap_lt HXb.out)).trans HXb.out)
      have o0 := cell_old HBA.out o0
      have o1 := cell_old HBA.out o1
      have HZG := Lib.hid hzG
      have HZA := Lib.hid hzA
      have HZB := Lib.hid hzB
      clear hzG hzA hzB hG9 p0 p1 p2 p3 p4 s0 s1 s2
      have bn : ((n : Int) != (n : Int)) = false := by simp
      cases fl with
      | true =>
        have he : at' = (k : Int) := by have := HRUN.out; rw [if_pos rfl] at this; simp at this; exact this.2.symm
        have be : ((k : Int) == at') = true := by simp [he]
        have HE := Lib.hid he
        have hzy : z = y := by have := HRUN.out; rw [if_pos rfl] at this; simp at this; exact this.1
        have hym : z.m = ym := by rw [hzy]; exact HYM.out
        have hzcs : z.cs = y.cs := by rw [hzy]
        rw [hym] at z2 HZG
        have HZCS := Lib.hid hzcs
        clear he hzy hym hzcs
        have HB7A := Lib.hid (HBr.out.trans (HBA.out.mono HBr.out.size))
        obtain ⟨y0, y1, y2⟩ := box3 ((HB7A.out.block gy HGL.out.2).trans HYK7.out)
        have hne : ∀ k, k ≠ X → (((w10.setCell ⟨X, 0, none⟩ (.slice (some ⟨za, 0, none⟩) n zca)).setCell ⟨X, 1, none⟩ (.slice (some ⟨zb, 0, none⟩) n zcb)).setCell ⟨X, 2, none⟩ (.bool ym)).heap[k]? = w10.heap[k]? := fun k hk => far3 hk _ _ _
        have HBF : Hid (Below w7.heap.size w7 (((w10.setCell ⟨X, 0, none⟩ (.slice (some ⟨za, 0, none⟩) n zca)).setCell ⟨X, 1, none⟩ (.slice (some ⟨zb, 0, none⟩) n zcb)).setCell ⟨X, 2, none⟩ (.bool ym))) := Lib.hid (below3 HB7A.out HGX.out.2.2 _ _ _)
        have HCA := Lib.hid (R_len (Kd.R_move HZA.out hne)).2.2
        rw [HZCS.out] at HCA
        clear hne
        have gX1 : gy ≠ X := Ne.symm HGX.out.2.1
        have gX2 : X ≠ gy := HGX.out.2.1
        go_wp2_with fail
        refine (r8Same _ _ _ _ n y.cs _ HY.out.lc HCA.out (Kd.C_below HE17.out HBF.out)).mono ?_
        rintro e wz ⟨rfl, hbz⟩
        have HBZ := Lib.hid (HBF.out.trans (hbz.mono HBF.out.size))
        have hXz := set3 (w := w10) ((HBA.out.block X (heap_lt HXb.out)).trans HXb.out) (.slice (some ⟨za, 0, none⟩) n zca) (.slice (some ⟨zb, 0, none⟩) n zcb) (.bool ym)
        obtain ⟨x0, x1, x2⟩ := box3 ((hbz.block X (heap_lt hXz)).trans hXz)
        obtain ⟨y0, y1, y2⟩ := box3 ((HBZ.out.block gy HGL.out.2).trans HYK7.out)
        clear hbz hXz
        have by1 : (ym != ym) = false := by simp
        have by2 : (ym == ym) = true := by simp
        have f1 := F.out.1
        have f2 := F.out.2.1
        have f3 := F.out.2.2
        cases bo with
        | false =>
          go_wp2_with fail
          go_ret
          exact ⟨rfl, HB7.out.trans (HBZ.out.mono HB7.out.size)⟩
        | true =>
          go_wp2_with fail
          have ewr : wrap64 ((ops.length : Int) * (n : Int)) = (ops.length : Int) * (n : Int) := by
            have h3 : n = 1 ∨ n = 2 ∨ n = 3 := by omega
            rcases h3 with rfl | rfl | rfl <;> rw [wrap64] <;> omega
          go_ret
          exact ⟨ret_bool (by rw [ewr]; exact decide_eq_true F4.out), HB7.out.trans (HBZ.out.mono HB7.out.size)⟩
      | false =>
        have HRU2 : Hid (runS p z (k + 1) (ops.drop (k + 1)) = (y, at')) := Lib.hid (by have := HRUN.out; rwa [if_neg (by simp)] at this)
        have be : ((k : Int) == at') = false := by
          rw [beq_eq_false_iff_ne]
          have h1 := runS_at p (ops.drop (k + 1)) z (k + 1)
          rw [HRU2.out] at h1
          simp only at h1
          omega
        have HB7A := Lib.hid (HBr.out.trans (HBA.out.mono HBr.out.size))
        obtain ⟨zm, hzm⟩ : ∃ m, z.m = m := ⟨_, rfl⟩
        rw [hzm] at z2 HZG
        have HZM := Lib.hid hzm
        clear hzm o0 o1
        clear o0 o1
        go_wp2_with fail
        obtain ⟨w11, hw11⟩ : ∃ w11, w11 = ((w10.setCell ⟨X, 0, none⟩ (.slice (some ⟨za, 0, none⟩) n zca)).setCell ⟨X, 1, none⟩ (.slice (some ⟨zb, 0, none⟩) n zcb)).setCell ⟨X, 2, none⟩ (.bool zm) := ⟨_, rfl⟩
        have hXz : w11.heap[X]? = some (.cells #[.slice (some ⟨za, 0, none⟩) n zca, .slice (some ⟨zb, 0, none⟩) n zcb, .bool zm] 60 (0, 0)) := by rw [hw11]; exact set3 (w := w10) ((HBA.out.block X (heap_lt HXb.out)).trans HXb.out) _ _ _
        have hRA := Kd.R_move (w1 := w11) HZA.out (fun k hk => by rw [hw11]; exact far3 hk _ _ _)
        have hRB := Kd.R_move (w1 := w11) HZB.out (fun k hk => by rw [hw11]; exact far3 hk _ _ _)
        have HB11 : Hid (Below w7.heap.size w7 w11) := Lib.hid (by rw [hw11]; exact below3 HB7A.out HGX.out.2.2 _ _ _)
        rw [← hw11]
        clear hw11 x0 x1 x2 x0f x1f x2f z0 z1 z2
        obtain ⟨x0, x1, x2⟩ := box3 hXz
        have oo := C_opN (Kd.C_below HOPS7.out HB11.out) k hlt rfl
        obtain ⟨ad2, e2, t0, t1⟩ := oo
        obtain rfl : ad = ad2 := by injection e2
        rw [HO.out] at t0 t1
        rw [HOKC.out.1] at t0
        rw [HOKC.out.2] at t1
        have c0 : 0 ≤ oc := HOO.out.2.2.1
        have c1 : oc < (n : Int) := HOO.out.2.2.2.1
        have zc : w11.cell? ⟨zb, oc.toNat, none⟩ = some (.bool (z.f oc.toNat)) := (Kd.R_celln false hRB oc c0 c1).1
        have HXZ := Lib.hid (show XBox w11 X n z from ⟨za, zb, zca, zcb, by rw [HZM.out]; exact hXz, hRA, hRB⟩)
        have HRB2 := Lib.hid hRB
        clear hXz hRA hRB e2
        by_cases hk0 : ok = 0
        · have b0 : (ok == 0) = true := by simp [hk0]
          have b1 : (ok == 1) = false := by simp [hk0]
          have hzf : z.f oc.toNat = true := by rw [← HOKC.out.2]; exact HFR.out (HOKC.out.1.trans hk0) trivial
          rw [hzf] at zc
          clear hk0 hzf
          go_quiet (fail)
          go_wp2_with fail
          go_loop [4, 19] (fun r j => ∃ q : Nat, q ≤ n ∧ j = .int .i64 q ∧ r = .bool false) (fun _ j => n - (intOf j).toNat)
          case atStart => exact ⟨0, Nat.zero_le _, rfl, rfl⟩
          case round =>
            obtain ⟨q, hq, rfl, rfl⟩ := hrel
            by_cases hql : q < n
            · go_wp2_with fail
              go_roundw
              case rel => exact ⟨k + 1, z, by omega, by go_num, rfl, HZO, HRU2, Lib.hid (HXZ.out.drewN _), Lib.hid (pw_below_drewN HB11.out _)⟩
              case measure => simp [intOf]; omega
            · obtain rfl : q = n := by omega
              go_wp2_with fail
              go_roundw
              case rel => exact ⟨k + 1, z, by omega, by go_num, rfl, HZO, HRU2, Lib.hid (HXZ.out.drewN _), Lib.hid (pw_below_drewN HB11.out _)⟩
              case measure => simp [intOf]; omega
        · have b0 : (ok == 0) = false := by rw [beq_eq_false_iff_ne]; exact hk0
          clear hk0
          by_cases hk1 : ok = 1
          · have b1 : (ok == 1) = true := by simp [hk1]
            have hzf : ∀ q : Nat, q < n → (q : Int) ≠ oc → w11.cell? ⟨zb, q, none⟩ = some (.bool false) := fun q hq hqc => by
              have h1 : z.f q = false := HWR.out (HOKC.out.1.trans hk1) q (by rw [HOKC.out.2]; omega)
              have h2 : w11.cell? ⟨zb, (q : Int).toNat, none⟩ = some (.bool (z.f (q : Int).toNat)) := (Kd.R_celln false HRB2.out (q : Int) (by omega) (by omega)).1
              rw [Int.toNat_natCast, h1] at h2
              exact h2
            have HZF := Lib.hid hzf
            clear hk1 hzf
            go_quiet (fail)
            go_wp2_with fail
            go_loop [4, 19] (fun r j => ∃ q : Nat, q ≤ n ∧ j = .int .i64 q ∧ r = .bool false) (fun _ j => n - (intOf j).toNat)
            case atStart => exact ⟨0, Nat.zero_le _, rfl, rfl⟩
            case round =>
              obtain ⟨q, hq, rfl, rfl⟩ := hrel
              by_cases hql : q < n
              · by_cases hqc : (q : Int) = oc
                · have b3 : ((q : Int) == oc) = true := by simp [hqc]
                  have b4 : ((q : Int) != oc) = false := by simp [hqc]
                  clear hqc
                  go_wp2_with fail
                  exact ⟨⟨q + 1, by omega, by go_num, rfl⟩, by simp [intOf]; omega⟩
                · have b3 : ((q : Int) == oc) = false := by rw [beq_eq_false_iff_ne]; exact hqc
                  have b4 : ((q : Int) != oc) = true := by rw [bne_iff_ne]; exact hqc
                  have zq := HZF.out q hql hqc
                  have q0 : (0 : Int) ≤ (q : Int) := by omega
                  have q1 : (q : Int) < (n : Int) := by omega
                  clear hqc
                  go_wp2_with fail
                  exact ⟨⟨q + 1, by omega, by go_num, rfl⟩, by simp [intOf]; omega⟩
              · obtain rfl : q = n := by omega
                go_wp2_with fail
                go_roundw
                case rel => exact ⟨k + 1, z, by omega, by go_num, rfl, HZO, HRU2, Lib.hid (HXZ.out.drewN _), Lib.hid (pw_below_drewN HB11.out _)⟩
                case measure => simp [intOf]; omega
          · have b1 : (ok == 1) = false := by rw [beq_eq_false_iff_ne]; exact hk1
            clear hk1
            go_quiet (fail)
            go_wp2_with fail
            go_loop [4, 19] (fun r j => ∃ q : Nat, q ≤ n ∧ j = .int .i64 q ∧ r = .bool false) (fun _ j => n - (intOf j).toNat)
            case atStart => exact ⟨0, Nat.zero_le _, rfl, rfl⟩
            case round =>
              obtain ⟨q, hq, rfl, rfl⟩ := hrel
              by_cases hql : q < n
              · go_wp2_with fail
                go_roundw
                case rel => exact ⟨k + 1, z, by omega, by go_num, rfl, HZO, HRU2, Lib.hid (HXZ.out.drewN _), Lib.hid (pw_below_drewN HB11.out _)⟩
                case measure => simp [intOf]; omega
              · obtain rfl : q = n := by omega
                go_wp2_with fail
                go_roundw
                case rel => exact ⟨k + 1, z, by omega, by go_num, rfl, HZO, HRU2, Lib.hid (HXZ.out.drewN _), Lib.hid (pw_below_drewN HB11.out _)⟩
                case measure => simp [intOf]; omega
    · obtain rfl : k = ops.length := by omega
      have he : ops.drop ops.length = [] := List.drop_of_length_le (by omega)
      have hrun := HRr.out
      rw [he, runS] at hrun
      injection hrun with hxy hat
      have hxm : x.m = ym := by rw [hxy]; exact HYM.out
      have hxcs : x.cs = y.cs := by rw [hxy]
      rw [hxm] at hXb
      rw [hxcs] at hRa
      have hXb' := hXb
      obtain ⟨x0, x1, x2⟩ := box3 hXb
      obtain ⟨y0, y1, y2⟩ := box3 ((HBr.out.block gy HGL.out.2).trans HYK7.out)
      have HBF := HBr
      have HCA := Lib.hid (R_len hRa).2.2
      have HXb := Lib.hid hXb
      clear hxy hat hxm hxcs hXb hXb' hRa hRb he
      go_wp2_with fail
      refine (r8Same _ _ _ _ n y.cs _ HY.out.lc HCA.out (Kd.C_below HE17.out HBF.out)).mono ?_
      rintro e wz ⟨rfl, hbz⟩
      have HBZ := Lib.hid (HBF.out.trans (hbz.mono HBF.out.size))
      have hXz := HXb.out
      obtain ⟨x0, x1, x2⟩ := box3 ((hbz.block X (heap_lt hXz)).trans hXz)
      obtain ⟨y0, y1, y2⟩ := box3 ((HBZ.out.block gy HGL.out.2).trans HYK7.out)
      clear hbz hXz
      have by1 : (ym != ym) = false := by simp
      have by2 : (ym == ym) = true := by simp
      have f1 := F.out.1
      have f2 := F.out.2.1
      have f3 := F.out.2.2
      cases bo with
      | false =>
        go_wp2_with fail
        go_ret
        exact ⟨rfl, HB7.out.trans (HBZ.out.mono HB7.out.size)⟩
      | true =>
        go_wp2_with fail
        have ewr : wrap64 ((ops.length : Int) * (n : Int)) = (ops.length : Int) * (n : Int) := by
          have h3 : n = 1 ∨ n = 2 ∨ n = 3 := by omega
          rcases h3 with rfl | rfl | rfl <;> rw [wrap64] <;> omega
        go_ret
        exact ⟨ret_bool (by rw [ewr]; exact decide_eq_true F4.out), HB7.out.trans (HBZ.out.mono HB7.out.size)⟩
end Go.Proofs.Ytfeabjiccnnpcaa.Ca
