import Derived.Test.YtfeabjiccnnpcaaCe
import Derived.Lib.SliceRun
import Derived.Laws.IdiomCopy
set_option linter.unusedVariables false
set_option linter.unusedSimpArgs false
namespace Go.Proofs.Ytfeabjiccnnpcaa.Ca
open Go.RowKit Go.Proofs.YtfeabjiccnnpcaaW.PrintWords Go.Proofs.YtfeabjiccnnpcaaW.PrintLast Go.Proofs.Ytfeabjiccnnpcaa.Ba

set_option maxHeartbeats 8000000 in
set_option maxRecDepth 100000 in
theorem step_evict (g a b n ca cb : Nat) (x : Sys) (p : Proto) (v : Value) (o : Op) (w : World) (hS : SysAt w g a b n ca cb x) (hn0 : 0 < n) (hn : n ≤ 3) (hv : ∀ w1, Chg (own3 g a b) w w1 → ProtoV w1 p v)
    (h0 : 0 ≤ o.cache) (h1 : o.cache < n) (hcs : ∀ j, j < n → 0 ≤ x.c j ∧ x.c j ≤ 3) (ht : tabsTo p 5 = true) (hk : o.kind = 2) :
    Calls Try.prog 94 #[.pointer (some ⟨g, 0, none⟩), v, .agg #[.int .i64 o.kind, .int .i64 o.cache]] w fun e w' => e = .returned (.tuple #[.bool (stepS p x o).2.1, .bool (stepS p x o).2.2.1, .int .i64 (stepS p x o).2.2.2]) ∧ SysAt w' g a b n ca cb (stepS p x o).1 ∧ Chg (own3 g a b) w w' := by
  have HR : Hid (stepS p x o = if (rl p.ev (x.c o.cache.toNat)).back = true then fin ((x.withM (x.f o.cache.toNat)).become o.cache.toNat 0 false) false false 1 else fin (x.become o.cache.toNat 0 false) false false 0) := Lib.hid (by simp [stepS, hk])
  obtain ⟨_, _, _, g1, g2, g3⟩ := hS.apart
  have hbd : ∀ k, own3 g a b k → k < w.heap.size := by rintro k (rfl | rfl | rfl) <;> assumption
  obtain ⟨A, c, rfl, hA⟩ := proto_fix hv
  have HE := Lib.hid (env_of (o := o) (c := c) hbd hA)
  have HS0 : Hid (SysAt (W2 w A c p o) g a b n ca cb x) := Lib.hid (hS.below (below_al2 w _ _))
  have HC0 : Hid (Chg (own3 g a b) w (W2 w A c p o)) := Lib.hid (((Chg.refl _ _).alloc _).alloc _)
  have hh := hcs o.cache.toNat (by omega)
  have HCS := Lib.hid hcs
  have T4 : ∀ k, k < 5 → (p.tab k).length = 4 := fun k hk => tabsTo_len ht hk
  have HT4 := Lib.hid T4
  obtain ⟨kd, ch⟩ := o
  simp only at *
  clear hS hv hA ht hcs g1 g2 g3 hbd
  obtain ⟨h, hh1⟩ : ∃ h, x.c ch.toNat = h := ⟨_, rfl⟩
  obtain ⟨f, hf1⟩ : ∃ f, x.f ch.toNat = f := ⟨_, rfl⟩
  have c0 : _ ∧ _ := HS0.out.cells
  have hca := (HS0.out.cAt ch h0 h1).1
  have hfa := (HS0.out.fAt ch h0 h1).1
  rw [hh1] at hca hh HR
  rw [hf1] at hfa
  try rw [hf1] at HR
  have h00 : 0 ≤ h := hh.1
  have h03 : h ≤ 3 := hh.2
  have he := HE.out _ (Chg.refl _ _)
  have e1 := he.2.1
  have e2 := he.2.2
  clear he hh T4
  simp only [W2, pcs] at hca hfa c0 e1 e2
  obtain ⟨c0, c1, c2, f2⟩ := c0
  subst hk
  obtain ⟨d0, C0⟩ := (HE.out _ (Chg.refl _ _)).1 2 (by omega)
  have q0 := HT4.out 2 (by omega)
  have hl4 : h < ((p.tab 2).length : Int) := by omega
  obtain ⟨ad, ea, _, _, r2⟩ := C_rule C0 h h00 hl4
  rw [ea] at d0
  simp only [W2, pcs, ea] at *
  obtain ⟨bk, hbk⟩ : ∃ r, (rl (p.tab 2) h).back = r := ⟨_, rfl⟩
  rw [hbk] at r2
  have HBK : Hid ((rl p.ev h).back = bk) := Lib.hid hbk
  have FF := Lib.hid (And.intro hh1 hf1)
  clear hh1 hf1 C0 q0 ea hbk
  cases bk with
  | true =>
    replace HR := Lib.hid (HR.out.trans (if_pos HBK.out))
    have HS1 := Lib.hid (HS0.out.setM f)
    have HC1 := Lib.hid (HC0.out.setCell (p := ⟨g, 2, none⟩) (.inl (.inl rfl)) (.bool f))
    have E1 := HE.out _ ((Chg.refl _ _).setCell (p := ⟨g, 2, none⟩) (.inl (.inl rfl)) (.bool f))
    have e2' := E1.2.2
    clear E1
    go_enter Try.func94, Try.ntmps94
    go_wp2
    go_quiet (fail)
    go_wp2
    refine start_ (n := 12) (S := fun w' => w'.cell? ⟨w.heap.size + 1, 1, none⟩ = some (.int .i64 ch) ∧ w'.cell? ⟨g, 1, none⟩ = some (.slice (some ⟨b, 0, none⟩) n cb) ∧ w'.cell? ⟨b, ch.toNat, none⟩ = some (.bool f)) (ds := [11]) #[false, false, false, false, false, false, false, false, false, false, false, false] (by kernel_rfl) rfl rfl ⟨e2, c1, hfa⟩ (fun hHeld => ?_)
    refine pure_ (i := 0) (N := some 28) (v := ?_) (a' := ?_) #[true, false, false, false, false, false, false, false, false, false, false, false] rfl rfl (by kernel_rfl) (fun _ _ _ h => h) (Or.inl ⟨by rfl, ?_⟩) ?_ ?_
    rotate_left
    · intro w'
      go_simp
      with_reducible rfl
    rotate_left
    · simp only [Act.put, List.setIfInBounds_toArray, List.set_cons_zero, List.set_cons_succ, i64_w, i32_w]
      rfl
    refine pure_ (i := 1) (N := some 29) (v := ?_) (a' := ?_) #[true, true, false, false, false, false, false, false, false, false, false, false] rfl rfl (by kernel_rfl) (fun _ _ _ h => h) (Or.inl ⟨by rfl, ?_⟩) ?_ ?_
    rotate_left
    · intro w'
      go_simp
      with_reducible rfl
    rotate_left
    · simp only [Act.put, List.setIfInBounds_toArray, List.set_cons_zero, List.set_cons_succ, i64_w, i32_w]
      rfl
    refine pure_ (i := 2) (N := some 30) (v := ?_) (a' := ?_) #[true, true, true, false, false, false, false, false, false, false, false, false] rfl rfl (by kernel_rfl) (fun _ _ _ h => h) (Or.inl ⟨by rfl, ?_⟩) ?_ ?_
    rotate_left
    · intro w'
      go_simp
      with_reducible rfl
    rotate_left
    · simp only [Act.put, List.setIfInBounds_toArray, List.set_cons_zero, List.set_cons_succ, i64_w, i32_w]
      rfl
    refine pure_ (i := 3) (N := some 31) (v := ?_) (a' := ?_) #[true, true, true, true, false, false, false, false, false, false, false, false] rfl rfl (by kernel_rfl) (fun _ _ _ h => h) (Or.inl ⟨by rfl, ?_⟩) ?_ ?_
    rotate_left
    · intro w'
      go_simp
      with_reducible rfl
    rotate_left
    · simp only [Act.put, List.setIfInBounds_toArray, List.set_cons_zero, List.set_cons_succ, i64_w, i32_w]
      rfl
    refine pure_ (i := 5) (N := some 33) (v := ?_) (a' := ?_) #[true, true, true, true, false, true, false, false, false, false, false, false] rfl rfl (by kernel_rfl) (fun _ _ _ h => h) (Or.inl ⟨by rfl, ?_⟩) ?_ ?_
    rotate_left
    · intro w'
      go_simp
      with_reducible rfl
    rotate_left
    · simp only [Act.put, List.setIfInBounds_toArray, List.set_cons_zero, List.set_cons_succ, i64_w, i32_w]
      rfl
    refine take_ (i := 4) (N := some 32) (v := ?_) (a' := ?_) #[true, true, true, true, true, true, false, false, false, false, false, false] rfl rfl (by kernel_rfl) (fun _ _ _ h => h) (Or.inl ⟨by rfl, ?_⟩) hHeld ?_ ?_
    rotate_left
    · rintro w' ⟨s0, s1, s2⟩
      go_simp
      with_reducible rfl
    rotate_left
    · simp only [Act.put, List.setIfInBounds_toArray, List.set_cons_zero, List.set_cons_succ, i64_w, i32_w]
      rfl
    refine take_ (i := 6) (N := some 34) (v := ?_) (a' := ?_) #[true, true, true, true, true, true, true, false, false, false, false, false] rfl rfl (by kernel_rfl) (fun _ _ _ h => h) (Or.inl ⟨by rfl, ?_⟩) hHeld ?_ ?_
    rotate_left
    · rintro w' ⟨s0, s1, s2⟩
      go_simp
      with_reducible rfl
    rotate_left
    · simp only [Act.put, List.setIfInBounds_toArray, List.set_cons_zero, List.set_cons_succ, i64_w, i32_w]
      rfl
    refine pure_ (i := 7) (N := some 35) (v := ?_) (a' := ?_) #[true, true, true, true, true, true, true, true, false, false, false, false] rfl rfl (by kernel_rfl) (fun _ _ _ h => h) (Or.inl ⟨by rfl, ?_⟩) ?_ ?_
    rotate_left
    · intro w'
      go_simp
      with_reducible rfl
    rotate_left
    · simp only [Act.put, List.setIfInBounds_toArray, List.set_cons_zero, List.set_cons_succ, i64_w, i32_w]
      rfl
    refine take_ (i := 8) (N := some 36) (v := ?_) (a' := ?_) #[true, true, true, true, true, true, true, true, true, false, false, false] rfl rfl (by kernel_rfl) (fun _ _ _ h => h) (Or.inl ⟨by rfl, ?_⟩) hHeld ?_ ?_
    rotate_left
    · rintro w' ⟨s0, s1, s2⟩
      go_simp
      with_reducible rfl
    rotate_left
    · simp only [Act.put, List.setIfInBounds_toArray, List.set_cons_zero, List.set_cons_succ, i64_w, i32_w]
      rfl
    refine pure_ (i := 9) (N := some 37) (v := ?_) (a' := ?_) #[true, true, true, true, true, true, true, true, true, true, false, false] rfl rfl (by kernel_rfl) (fun _ _ _ h => h) (Or.inl ⟨by rfl, ?_⟩) ?_ ?_
    rotate_left
    · intro w'
      go_simp
      with_reducible rfl
    rotate_left
    · simp only [Act.put, List.setIfInBounds_toArray, List.set_cons_zero, List.set_cons_succ, i64_w, i32_w]
      rfl
    refine pure_ (i := 10) (N := some 38) (v := ?_) (a' := ?_) #[true, true, true, true, true, true, true, true, true, true, true, false] rfl rfl (by kernel_rfl) (fun _ _ _ h => h) (Or.inl ⟨by rfl, ?_⟩) ?_ ?_
    rotate_left
    · intro w'
      go_simp
      with_reducible rfl
    rotate_left
    · simp only [Act.put, List.setIfInBounds_toArray, List.set_cons_zero, List.set_cons_succ, i64_w, i32_w]
      rfl
    refine last_ (i := 11) (N := none) #[true, true, true, true, true, true, true, true, true, true, true, true] rfl rfl (by kernel_rfl) (by decide) (fun K hK => ?_)
    refine skip_ (w1 := ?_) (by rfl) rfl ?_ ?_
    rotate_left
    · go_simp
      rfl
    refine hK.out _ _ ?_
    clear hK K
    refine done_ (by kernel_rfl) ?_
    go_wp2_with fail
    refine (become g a b n ca cb (x.withM f) ch 0 false _ (by exact HS1.out.move (fun _ _ => rfl)) h0 h1 hn).mono ?_
    rintro e w5 ⟨rfl, hS5, hC5⟩
    have HS5 := Lib.hid hS5
    have HC5 : Hid (Chg (own3 g a b) w w5) := Lib.hid (by refine Chg.trans ?_ hC5; have h := HC1.out; exact ⟨h.os, h.tape, h.output, h.size, h.block⟩)
    clear hS5 hC5 c0 c1 c2 f2 e1 e2 d0 r2 e2' hca hfa
    obtain ⟨yc0, yc1, yc2, yf2⟩ := HS5.out.cells
    have hCf := Lib.hid (R_len HS5.out.rf).2.2
    have hLf := Lib.hid HS5.out.lens.2
    obtain ⟨ym, hym⟩ : ∃ m, Sys.m ((x.withM f).become ch.toNat 0 false) = m := ⟨_, rfl⟩
    rw [hym] at yc2
    have HYM := Lib.hid hym
    clear hym
    cases ym with
    | true =>
      have HF := Lib.hid (HR.out.trans (fin_m _ _ _ HYM.out))
      go_wp2
      go_ret3
      rw [HF.out]
      exact ⟨rfl, HS5.out, HC5.out⟩
    | false =>
      have HF := Lib.hid (HR.out.trans (fin_f _ _ _ HYM.out))
      go_wp2_with (go_at_call 162; refine (containsT _ _ _ _ _ hCf.out hLf.out).mono ?_; rintro e w' ⟨rfl, rfl⟩)
      go_ret3
      rw [HF.out]
      exact ⟨rfl, HS5.out, HC5.out⟩
  | false =>
    replace HR := Lib.hid (HR.out.trans (if_neg (by rw [HBK.out]; simp)))
    go_enter Try.func94, Try.ntmps94
    go_wp2
    go_quiet (fail)
    go_wp2_with fail
    refine (become g a b n ca cb x ch 0 false _ (by exact HS0.out.move (fun _ _ => rfl)) h0 h1 hn).mono ?_
    rintro e w5 ⟨rfl, hS5, hC5⟩
    have HS5 := Lib.hid hS5
    have HC5 : Hid (Chg (own3 g a b) w w5) := Lib.hid (by refine Chg.trans ?_ hC5; exact ⟨HC0.out.os, HC0.out.tape, HC0.out.output, HC0.out.size, HC0.out.block⟩)
    clear hS5 hC5 c0 c1 c2 f2 e1 e2 d0 r2 hca hfa
    obtain ⟨yc0, yc1, yc2, yf2⟩ := HS5.out.cells
    have hCf := Lib.hid (R_len HS5.out.rf).2.2
    have hLf := Lib.hid HS5.out.lens.2
    obtain ⟨ym, hym⟩ : ∃ m, Sys.m (x.become ch.toNat 0 false) = m := ⟨_, rfl⟩
    rw [hym] at yc2
    have HYM := Lib.hid hym
    clear hym
    cases ym with
    | true =>
      have HF := Lib.hid (HR.out.trans (fin_m _ _ _ HYM.out))
      go_wp2
      go_ret3
      rw [HF.out]
      exact ⟨rfl, HS5.out, HC5.out⟩
    | false =>
      have HF := Lib.hid (HR.out.trans (fin_f _ _ _ HYM.out))
      go_wp2_with (go_at_call 162; refine (containsT _ _ _ _ _ hCf.out hLf.out).mono ?_; rintro e w' ⟨rfl, rfl⟩)
      go_ret3
      rw [HF.out]
      exact ⟨rfl, HS5.out, HC5.out⟩

theorem clear_run {W : World} {g a b n ca cb : Nat} {x : Sys} (hS : SysAt W g a b n ca cb x) (h0 : 0 < n) (ty : TypeId) :
    (Builtin.clear_ #[58] ty #[.slice (some ⟨b, 0, none⟩) n cb]).run Try.prog W = .ok (.tuple #[]) (W.setCells b 0 (List.replicate n (.bool false))) :=
  Lib.run_clear_slice W 58 4 ty (.bool false) Try.underlying58 Try.zeroValue4 rfl rfl b 0 n cb h0
    (fun j hj => by have := (hS.fAt (j : Int) (by omega) (by omega)).1; simp only [Int.toNat_natCast] at this; rw [Nat.zero_add, this]; rfl)
    (fun j hj => by have := (hS.fAt (j : Int) (by omega) (by omega)).2; simp only [Int.toNat_natCast] at this; rw [Nat.zero_add, this])
theorem clear_sys {W : World} {g a b n ca cb : Nat} {x : Sys} (hS : SysAt W g a b n ca cb x) (hn : n ≤ 3) :
    SysAt (W.setCells b 0 (List.replicate n (.bool false))) g a b n ca cb x.clear ∧ Chg (own3 g a b) W (W.setCells b 0 (List.replicate n (.bool false))) := by
  have one : ∀ (j : Nat) (W : World) (fs : List Bool), SysAt W g a b n ca cb ⟨x.cs, fs, x.m⟩ → SysAt (W.setCell ⟨b, j, none⟩ (.bool false)) g a b n ca cb ⟨x.cs, fs.set j false, x.m⟩ := by
    intro j W fs h
    obtain ⟨h1, h2, h3, h4, h5, h6⟩ := h.apart
    refine ⟨?_, ?_, ?_⟩
    · rw [Below.heap_setCell _ _ _ _ h2]; exact h.blk
    · exact Kd.R_far h.rc (fun k hk => by subst hk; exact h3) _
    · exact (Kd.R_putg h.rf (j : Int) false).1
  have hl := hS.lens.2
  obtain ⟨cs, fs, m⟩ := x
  simp only at hl one hS
  have cC : ∀ (j : Nat) (W1 : World), Chg (own3 g a b) W W1 → Chg (own3 g a b) W (W1.setCell ⟨b, j, none⟩ (.bool false)) := fun j W1 h => h.setCell (p := ⟨b, j, none⟩) (.inl (.inr (.inr rfl))) _
  match n, hn, fs, hl with
  | 0, _, [], _ => exact ⟨hS, Chg.refl _ _⟩
  | 1, _, [f0], _ => exact ⟨one 0 _ _ hS, cC 0 _ (Chg.refl _ _)⟩
  | 2, _, [f0, f1], _ => exact ⟨one 1 _ _ (one 0 _ _ hS), cC 1 _ (cC 0 _ (Chg.refl _ _))⟩
  | 3, _, [f0, f1, f2], _ => exact ⟨one 2 _ _ (one 1 _ _ (one 0 _ _ hS)), cC 2 _ (cC 1 _ (cC 0 _ (Chg.refl _ _)))⟩


set_option maxHeartbeats 8000000 in
set_option maxRecDepth 100000 in
theorem step_write_own (g a b n ca cb : Nat) (x : Sys) (p : Proto) (v : Value) (o : Op) (w : World) (hS : SysAt w g a b n ca cb x) (hn0 : 0 < n) (hn : n ≤ 3) (hv : ∀ w1, Chg (own3 g a b) w w1 → ProtoV w1 p v)
    (h0 : 0 ≤ o.cache) (h1 : o.cache < n) (hcs : ∀ j, j < n → 0 ≤ x.c j ∧ x.c j ≤ 3) (ht : tabsTo p 5 = true) (hk : o.kind = 1) (hne : ¬ (x.c o.cache.toNat = 0 ∨ x.c o.cache.toNat = 1)) :
    Calls Try.prog 94 #[.pointer (some ⟨g, 0, none⟩), v, .agg #[.int .i64 o.kind, .int .i64 o.cache]] w fun e w' => e = .returned (.tuple #[.bool (stepS p x o).2.1, .bool (stepS p x o).2.2.1, .int .i64 (stepS p x o).2.2.2]) ∧ SysAt w' g a b n ca cb (stepS p x o).1 ∧ Chg (own3 g a b) w w' := by
  have HR : Hid (stepS p x o = if (rl p.wr (x.c o.cache.toNat)).back = true then fin ((x.clear.become o.cache.toNat (rl p.wr (x.c o.cache.toNat)).next true).withM true) false false 1 else fin ((x.clear.become o.cache.toNat (rl p.wr (x.c o.cache.toNat)).next true).withM false) false false 0) := Lib.hid (by simp only [stepS, hk]; rw [if_neg (by decide), if_pos trivial, if_neg hne])
  obtain ⟨_, _, _, g1, g2, g3⟩ := hS.apart
  have hbd : ∀ k, own3 g a b k → k < w.heap.size := by rintro k (rfl | rfl | rfl) <;> assumption
  obtain ⟨A, c, rfl, hA⟩ := proto_fix hv
  have HE := Lib.hid (env_of (o := o) (c := c) hbd hA)
  have HS0 : Hid (SysAt (W2 w A c p o) g a b n ca cb x) := Lib.hid (hS.below (below_al2 w _ _))
  have HC0 : Hid (Chg (own3 g a b) w (W2 w A c p o)) := Lib.hid (((Chg.refl _ _).alloc _).alloc _)
  have hh := hcs o.cache.toNat (by omega)
  have HCS := Lib.hid hcs
  have T4 : ∀ k, k < 5 → (p.tab k).length = 4 := fun k hk => tabsTo_len ht hk
  have HT4 := Lib.hid T4
  obtain ⟨kd, ch⟩ := o
  simp only at *
  clear hS hv hA ht hcs g1 g2 g3 hbd
  obtain ⟨h, hh1⟩ : ∃ h, x.c ch.toNat = h := ⟨_, rfl⟩
  obtain ⟨f, hf1⟩ : ∃ f, x.f ch.toNat = f := ⟨_, rfl⟩
  have c0 : _ ∧ _ := HS0.out.cells
  have hca := (HS0.out.cAt ch h0 h1).1
  have hfa := (HS0.out.fAt ch h0 h1).1
  rw [hh1] at hca hh HR
  rw [hf1] at hfa
  try rw [hf1] at HR
  have h00 : 0 ≤ h := hh.1
  have h03 : h ≤ 3 := hh.2
  have he := HE.out _ (Chg.refl _ _)
  have e1 := he.2.1
  have e2 := he.2.2
  clear he hh T4
  simp only [W2, pcs] at hca hfa c0 e1 e2
  obtain ⟨c0, c1, c2, f2⟩ := c0
  rw [hh1] at hne
  subst hk
  have q1 := HT4.out 1 (by omega)
  have hl4 : h < ((p.tab 1).length : Int) := by omega
  have b1 : (h == 0) = false := by rw [beq_eq_false_iff_ne]; intro e; exact hne (.inl e)
  have b2 : (h == 1) = false := by rw [beq_eq_false_iff_ne]; intro e; exact hne (.inr e)
  have FF := Lib.hid (And.intro hh1 hf1)
  obtain ⟨ad, ea, _⟩ := C_rule ((HE.out _ (Chg.refl _ _)).1 1 (by omega)).2 h h00 hl4
  clear hh1 hf1 q1 hne
  simp only [W2, pcs] at *
  have EA := Lib.hid ea
  have EV : ∀ l k, (some (Value.slice (A 1) l k)) = some (.slice (some ad) l k) := fun l k => by rw [ea]
  have HEV := Lib.hid EV
  clear ea EV
  go_enter Try.func94, Try.ntmps94
  go_wp2
  go_quiet (fail)
  have hrun := fun ty => clear_run (HS0.out.drewN nq) hn0 ty
  have hcl := clear_sys (HS0.out.drewN nq) hn
  have E4 := HE.out _ (((Chg.refl _ _).drewN nq).trans hcl.2)
  have e2' := E4.2.2
  obtain ⟨d1', C1⟩ := E4.1 1 (by omega)
  replace d1' := d1'.trans (HEV.out _ _)
  obtain ⟨ad', ea', r0', _, r2'⟩ := C_rule C1 h h00 hl4
  obtain rfl : ad' = ad := by have := ea'.symm.trans EA.out; injection this
  clear ea'
  have HS4 := Lib.hid hcl
  have HC4 := Lib.hid (((Chg.refl _ _).drewN nq).trans hcl.2)
  clear E4 C1 hcl
  obtain ⟨bk, hbk⟩ : ∃ r, (rl (p.tab 1) h).back = r := ⟨_, rfl⟩
  rw [hbk] at r2'
  have HBK := Lib.hid hbk
  clear hbk
  cases bk with
  | true =>
    replace HR := Lib.hid (HR.out.trans (if_pos HBK.out))
    go_wp2
    refine start_ (n := 10) (S := fun w' => w'.cell? ⟨w.heap.size + 1, 1, none⟩ = some (.int .i64 ch) ∧ w'.cell? ⟨w.heap.size, 1, none⟩ = some (.slice (some ad') (p.tab 1).length (c 1)) ∧ w'.cell? (ad'.add (h.toNat * 3)) = some (.int .i64 (rl (p.tab 1) h).next)) (ds := [9]) #[false, false, false, false, false, false, false, false, false, false] (by kernel_rfl) rfl rfl ⟨e2', d1', r0'⟩ (fun hHeld => ?_)
    refine pure_ (i := 0) (N := some 139) (v := ?_) (a' := ?_) #[true, false, false, false, false, false, false, false, false, false] rfl rfl (by kernel_rfl) (fun _ _ _ h => h) (Or.inl ⟨by rfl, ?_⟩) ?_ ?_
    rotate_left
    · intro w'
      go_simp
      with_reducible rfl
    rotate_left
    · simp only [Act.put, List.setIfInBounds_toArray, List.set_cons_zero, List.set_cons_succ, i64_w, i32_w]
      rfl
    refine pure_ (i := 1) (N := some 140) (v := ?_) (a' := ?_) #[true, true, false, false, false, false, false, false, false, false] rfl rfl (by kernel_rfl) (fun _ _ _ h => h) (Or.inl ⟨by rfl, ?_⟩) ?_ ?_
    rotate_left
    · intro w'
      go_simp
      with_reducible rfl
    rotate_left
    · simp only [Act.put, List.setIfInBounds_toArray, List.set_cons_zero, List.set_cons_succ, i64_w, i32_w]
      rfl
    refine pure_ (i := 3) (N := some 142) (v := ?_) (a' := ?_) #[true, true, false, true, false, false, false, false, false, false] rfl rfl (by kernel_rfl) (fun _ _ _ h => h) (Or.inl ⟨by rfl, ?_⟩) ?_ ?_
    rotate_left
    · intro w'
      go_simp
      with_reducible rfl
    rotate_left
    · simp only [Act.put, List.setIfInBounds_toArray, List.set_cons_zero, List.set_cons_succ, i64_w, i32_w]
      rfl
    refine pure_ (i := 5) (N := some 144) (v := ?_) (a' := ?_) #[true, true, false, true, false, true, false, false, false, false] rfl rfl (by kernel_rfl) (fun _ _ _ h => h) (Or.inl ⟨by rfl, ?_⟩) ?_ ?_
    rotate_left
    · intro w'
      go_simp
      with_reducible rfl
    rotate_left
    · simp only [Act.put, List.setIfInBounds_toArray, List.set_cons_zero, List.set_cons_succ, i64_w, i32_w]
      rfl
    refine take_ (i := 2) (N := some 141) (v := ?_) (a' := ?_) #[true, true, true, true, false, true, false, false, false, false] rfl rfl (by kernel_rfl) (fun _ _ _ h => h) (Or.inl ⟨by rfl, ?_⟩) hHeld ?_ ?_
    rotate_left
    · rintro w' ⟨s0, s1, s2⟩
      go_simp
      with_reducible rfl
    rotate_left
    · simp only [Act.put, List.setIfInBounds_toArray, List.set_cons_zero, List.set_cons_succ, i64_w, i32_w]
      rfl
    refine take_ (i := 4) (N := some 143) (v := ?_) (a' := ?_) #[true, true, true, true, true, true, false, false, false, false] rfl rfl (by kernel_rfl) (fun _ _ _ h => h) (Or.inl ⟨by rfl, ?_⟩) hHeld ?_ ?_
    rotate_left
    · rintro w' ⟨s0, s1, s2⟩
      go_simp
      with_reducible rfl
    rotate_left
    · simp only [Act.put, List.setIfInBounds_toArray, List.set_cons_zero, List.set_cons_succ, i64_w, i32_w]
      rfl
    refine pure_ (i := 6) (N := some 145) (v := ?_) (a' := ?_) #[true, true, true, true, true, true, true, false, false, false] rfl rfl (by kernel_rfl) (fun _ _ _ h => h) (Or.inl ⟨by rfl, ?_⟩) ?_ ?_
    rotate_left
    · intro w'
      go_simp
      with_reducible rfl
    rotate_left
    · simp only [Act.put, List.setIfInBounds_toArray, List.set_cons_zero, List.set_cons_succ, i64_w, i32_w]
      rfl
    refine pure_ (i := 7) (N := some 146) (v := ?_) (a' := ?_) #[true, true, true, true, true, true, true, true, false, false] rfl rfl (by kernel_rfl) (fun _ _ _ h => h) (Or.inl ⟨by rfl, ?_⟩) ?_ ?_
    rotate_left
    · intro w'
      go_simp
      with_reducible rfl
    rotate_left
    · simp only [Act.put, List.setIfInBounds_toArray, List.set_cons_zero, List.set_cons_succ, i64_w, i32_w]
      rfl
    refine take_ (i := 8) (N := some 147) (v := ?_) (a' := ?_) #[true, true, true, true, true, true, true, true, true, false] rfl rfl (by kernel_rfl) (fun _ _ _ h => h) (Or.inl ⟨by rfl, ?_⟩) hHeld ?_ ?_
    rotate_left
    · rintro w' ⟨s0, s1, s2⟩
      go_simp
      with_reducible rfl
    rotate_left
    · simp only [Act.put, List.setIfInBounds_toArray, List.set_cons_zero, List.set_cons_succ, i64_w, i32_w]
      rfl
    refine last_ (i := 9) (N := some 148) #[true, true, true, true, true, true, true, true, true, true] rfl rfl (by kernel_rfl) (by decide) (fun K hK => ?_)
    refine goes_ Try.func158 (by kernel_rfl) rfl #[.pointer (some ⟨g, 0, none⟩), .int .i64 ch, .int .i64 (rl (p.tab 1) h).next, .bool true] (by rfl) rfl rfl (by simp only [List.map_toArray, List.map_cons, List.map_nil]; rfl) ?_
    with_reducible refine (become g a b n ca cb x.clear ch _ true _ (by exact HS4.out.1.move (fun _ _ => rfl)) h0 h1 hn).mono ?_
    rintro e w5 ⟨rfl, hS5, hC5⟩
    refine ⟨_, rfl, ?_⟩
    have HS5 := Lib.hid hS5
    have HC5 := Lib.hid (HC4.out.drew.trans hC5)
    clear hS5 hC5
    refine hK.out _ _ ?_
    clear hK K
    refine norm_ (a' := ?_) ?_ ?_
    rotate_left
    · show Act.put _ (some 148) _ = _
      simp only [Act.put, List.setIfInBounds_toArray, List.set_cons_zero, List.set_cons_succ, i64_w, i32_w]
      rfl
    refine done_ (by kernel_rfl) ?_
    clear e2' d1' r0' r2'
    have E5 := HE.out _ HC5.out
    obtain ⟨c0, c1, c2, f2⟩ := HS5.out.cells
    have d1 := (E5.1 1 (by omega)).1
    replace d1 := d1.trans (HEV.out _ _)
    have C1 := (E5.1 1 (by omega)).2
    obtain ⟨ad2, ea2, _, _, r2⟩ := C_rule C1 h h00 hl4
    obtain rfl : ad2 = ad' := by have := ea2.symm.trans EA.out; injection this
    clear ea2
    rw [HBK.out] at r2
    have HS6 := Lib.hid (HS5.out.setM true)
    have HC6 : Hid (Chg (own3 g a b) w _) := Lib.hid ((HC0.out.trans HC5.out).setCell (p := ⟨g, 2, none⟩) (.inl (.inl rfl)) (.bool true))
    have z2 := HS6.out.cells.2.2.1
    have hCf := Lib.hid (R_len HS6.out.rf).2.2
    have hLf := Lib.hid HS6.out.lens.2
    clear E5 C1
    have HF := Lib.hid (HR.out.trans (fin_m _ _ _ rfl))
    go_wp2
    go_ret3
    rw [HF.out]
    exact ⟨rfl, HS6.out, HC6.out⟩
  | false =>
    replace HR := Lib.hid (HR.out.trans (if_neg (by rw [show (rl p.wr h).back = _ from HBK.out]; simp)))
    go_wp2
    refine start_ (n := 10) (S := fun w' => w'.cell? ⟨w.heap.size + 1, 1, none⟩ = some (.int .i64 ch) ∧ w'.cell? ⟨w.heap.size, 1, none⟩ = some (.slice (some ad') (p.tab 1).length (c 1)) ∧ w'.cell? (ad'.add (h.toNat * 3)) = some (.int .i64 (rl (p.tab 1) h).next)) (ds := [9]) #[false, false, false, false, false, false, false, false, false, false] (by kernel_rfl) rfl rfl ⟨e2', d1', r0'⟩ (fun hHeld => ?_)
    refine pure_ (i := 0) (N := some 139) (v := ?_) (a' := ?_) #[true, false, false, false, false, false, false, false, false, false] rfl rfl (by kernel_rfl) (fun _ _ _ h => h) (Or.inl ⟨by rfl, ?_⟩) ?_ ?_
    rotate_left
    · intro w'
      go_simp
      with_reducible rfl
    rotate_left
    · simp only [Act.put, List.setIfInBounds_toArray, List.set_cons_zero, List.set_cons_succ, i64_w, i32_w]
      rfl
    refine pure_ (i := 1) (N := some 140) (v := ?_) (a' := ?_) #[true, true, false, false, false, false, false, false, false, false] rfl rfl (by kernel_rfl) (fun _ _ _ h => h) (Or.inl ⟨by rfl, ?_⟩) ?_ ?_
    rotate_left
    · intro w'
      go_simp
      with_reducible rfl
    rotate_left
    · simp only [Act.put, List.setIfInBounds_toArray, List.set_cons_zero, List.set_cons_succ, i64_w, i32_w]
      rfl
    refine pure_ (i := 3) (N := some 142) (v := ?_) (a' := ?_) #[true, true, false, true, false, false, false, false, false, false] rfl rfl (by kernel_rfl) (fun _ _ _ h => h) (Or.inl ⟨by rfl, ?_⟩) ?_ ?_
    rotate_left
    · intro w'
      go_simp
      with_reducible rfl
    rotate_left
    · simp only [Act.put, List.setIfInBounds_toArray, List.set_cons_zero, List.set_cons_succ, i64_w, i32_w]
      rfl
    refine pure_ (i := 5) (N := some 144) (v := ?_) (a' := ?_) #[true, true, false, true, false, true, false, false, false, false] rfl rfl (by kernel_rfl) (fun _ _ _ h => h) (Or.inl ⟨by rfl, ?_⟩) ?_ ?_
    rotate_left
    · intro w'
      go_simp
      with_reducible rfl
    rotate_left
    · simp only [Act.put, List.setIfInBounds_toArray, List.set_cons_zero, List.set_cons_succ, i64_w, i32_w]
      rfl
    refine take_ (i := 2) (N := some 141) (v := ?_) (a' := ?_) #[true, true, true, true, false, true, false, false, false, false] rfl rfl (by kernel_rfl) (fun _ _ _ h => h) (Or.inl ⟨by rfl, ?_⟩) hHeld ?_ ?_
    rotate_left
    · rintro w' ⟨s0, s1, s2⟩
      go_simp
      with_reducible rfl
    rotate_left
    · simp only [Act.put, List.setIfInBounds_toArray, List.set_cons_zero, List.set_cons_succ, i64_w, i32_w]
      rfl
    refine take_ (i := 4) (N := some 143) (v := ?_) (a' := ?_) #[true, true, true, true, true, true, false, false, false, false] rfl rfl (by kernel_rfl) (fun _ _ _ h => h) (Or.inl ⟨by rfl, ?_⟩) hHeld ?_ ?_
    rotate_left
    · rintro w' ⟨s0, s1, s2⟩
      go_simp
      with_reducible rfl
    rotate_left
    · simp only [Act.put, List.setIfInBounds_toArray, List.set_cons_zero, List.set_cons_succ, i64_w, i32_w]
      rfl
    refine pure_ (i := 6) (N := some 145) (v := ?_) (a' := ?_) #[true, true, true, true, true, true, true, false, false, false] rfl rfl (by kernel_rfl) (fun _ _ _ h => h) (Or.inl ⟨by rfl, ?_⟩) ?_ ?_
    rotate_left
    · intro w'
      go_simp
      with_reducible rfl
    rotate_left
    · simp only [Act.put, List.setIfInBounds_toArray, List.set_cons_zero, List.set_cons_succ, i64_w, i32_w]
      rfl
    refine pure_ (i := 7) (N := some 146) (v := ?_) (a' := ?_) #[true, true, true, true, true, true, true, true, false, false] rfl rfl (by kernel_rfl) (fun _ _ _ h => h) (Or.inl ⟨by rfl, ?_⟩) ?_ ?_
    rotate_left
    · intro w'
      go_simp
      with_reducible rfl
    rotate_left
    · simp only [Act.put, List.setIfInBounds_toArray, List.set_cons_zero, List.set_cons_succ, i64_w, i32_w]
      rfl
    refine take_ (i := 8) (N := some 147) (v := ?_) (a' := ?_) #[true, true, true, true, true, true, true, true, true, false] rfl rfl (by kernel_rfl) (fun _ _ _ h => h) (Or.inl ⟨by rfl, ?_⟩) hHeld ?_ ?_
    rotate_left
    · rintro w' ⟨s0, s1, s2⟩
      go_simp
      with_reducible rfl
    rotate_left
    · simp only [Act.put, List.setIfInBounds_toArray, List.set_cons_zero, List.set_cons_succ, i64_w, i32_w]
      rfl
    refine last_ (i := 9) (N := some 148) #[true, true, true, true, true, true, true, true, true, true] rfl rfl (by kernel_rfl) (by decide) (fun K hK => ?_)
    refine goes_ Try.func158 (by kernel_rfl) rfl #[.pointer (some ⟨g, 0, none⟩), .int .i64 ch, .int .i64 (rl (p.tab 1) h).next, .bool true] (by rfl) rfl rfl (by simp only [List.map_toArray, List.map_cons, List.map_nil]; rfl) ?_
    with_reducible refine (become g a b n ca cb x.clear ch _ true _ (by exact HS4.out.1.move (fun _ _ => rfl)) h0 h1 hn).mono ?_
    rintro e w5 ⟨rfl, hS5, hC5⟩
    refine ⟨_, rfl, ?_⟩
    have HS5 := Lib.hid hS5
    have HC5 := Lib.hid (HC4.out.drew.trans hC5)
    clear hS5 hC5
    refine hK.out _ _ ?_
    clear hK K
    refine norm_ (a' := ?_) ?_ ?_
    rotate_left
    · show Act.put _ (some 148) _ = _
      simp only [Act.put, List.setIfInBounds_toArray, List.set_cons_zero, List.set_cons_succ, i64_w, i32_w]
      rfl
    refine done_ (by kernel_rfl) ?_
    clear e2' d1' r0' r2'
    have E5 := HE.out _ HC5.out
    obtain ⟨c0, c1, c2, f2⟩ := HS5.out.cells
    have d1 := (E5.1 1 (by omega)).1
    replace d1 := d1.trans (HEV.out _ _)
    have C1 := (E5.1 1 (by omega)).2
    obtain ⟨ad2, ea2, _, _, r2⟩ := C_rule C1 h h00 hl4
    obtain rfl : ad2 = ad' := by have := ea2.symm.trans EA.out; injection this
    clear ea2
    rw [HBK.out] at r2
    have HS6 := Lib.hid (HS5.out.setM false)
    have HC6 : Hid (Chg (own3 g a b) w _) := Lib.hid ((HC0.out.trans HC5.out).setCell (p := ⟨g, 2, none⟩) (.inl (.inl rfl)) (.bool false))
    have z2 := HS6.out.cells.2.2.1
    have hCf := Lib.hid (R_len HS6.out.rf).2.2
    have hLf := Lib.hid HS6.out.lens.2
    clear E5 C1
    have HF := Lib.hid (HR.out.trans (fin_f _ _ _ rfl))
    go_wp2_with fail
    refine (containsT _ _ _ _ _ hCf.out hLf.out).mono ?_
    rintro e w' ⟨rfl, rfl⟩
    go_wp2_with fail
    go_ret3
    rw [HF.out]
    exact ⟨rfl, HS6.out, HC6.out⟩

set_option maxHeartbeats 8000000 in
set_option maxRecDepth 100000 in
theorem step_write_see0 (g a b n ca cb : Nat) (x : Sys) (p : Proto) (v : Value) (o : Op) (w : World) (hS : SysAt w g a b n ca cb x) (hn0 : 0 < n) (hn : n ≤ 3) (hv : ∀ w1, Chg (own3 g a b) w w1 → ProtoV w1 p v)
    (h0 : 0 ≤ o.cache) (h1 : o.cache < n) (hcs : ∀ j, j < n → 0 ≤ x.c j ∧ x.c j ≤ 3) (ht : tabsTo p 5 = true) (hk : o.kind = 1) (hne : x.c o.cache.toNat = 0) :
    Calls Try.prog 94 #[.pointer (some ⟨g, 0, none⟩), v, .agg #[.int .i64 o.kind, .int .i64 o.cache]] w fun e w' => e = .returned (.tuple #[.bool (stepS p x o).2.1, .bool (stepS p x o).2.2.1, .int .i64 (stepS p x o).2.2.2]) ∧ SysAt w' g a b n ca cb (stepS p x o).1 ∧ Chg (own3 g a b) w w' := by
  have HR : Hid (stepS p x o = if (rl p.wr (x.c o.cache.toNat)).back = true then fin (((see p.sw o.cache.toNat x).1.clear.become o.cache.toNat (rl p.wr (x.c o.cache.toNat)).next true).withM true) false true ((see p.sw o.cache.toNat x).2 + 1) else fin (((see p.sw o.cache.toNat x).1.clear.become o.cache.toNat (rl p.wr (x.c o.cache.toNat)).next true).withM false) false true (see p.sw o.cache.toNat x).2) := Lib.hid (by simp only [stepS, hk]; rw [if_neg (by decide), if_pos trivial, if_pos (by exact .inl hne)])
  obtain ⟨_, _, _, g1, g2, g3⟩ := hS.apart
  have hbd : ∀ k, own3 g a b k → k < w.heap.size := by rintro k (rfl | rfl | rfl) <;> assumption
  obtain ⟨A, c, rfl, hA⟩ := proto_fix hv
  have HE := Lib.hid (env_of (o := o) (c := c) hbd hA)
  have HS0 : Hid (SysAt (W2 w A c p o) g a b n ca cb x) := Lib.hid (hS.below (below_al2 w _ _))
  have HC0 : Hid (Chg (own3 g a b) w (W2 w A c p o)) := Lib.hid (((Chg.refl _ _).alloc _).alloc _)
  have hh := hcs o.cache.toNat (by omega)
  have HCS := Lib.hid hcs
  have T4 : ∀ k, k < 5 → (p.tab k).length = 4 := fun k hk => tabsTo_len ht hk
  have HT4 := Lib.hid T4
  obtain ⟨kd, ch⟩ := o
  simp only at *
  clear hS hv hA ht hcs g1 g2 g3 hbd
  obtain ⟨h, hh1⟩ : ∃ h, x.c ch.toNat = h := ⟨_, rfl⟩
  obtain ⟨f, hf1⟩ : ∃ f, x.f ch.toNat = f := ⟨_, rfl⟩
  have c0 : _ ∧ _ := HS0.out.cells
  have hca := (HS0.out.cAt ch h0 h1).1
  have hfa := (HS0.out.fAt ch h0 h1).1
  rw [hh1] at hca hh HR
  rw [hf1] at hfa
  try rw [hf1] at HR
  have h00 : 0 ≤ h := hh.1
  have h03 : h ≤ 3 := hh.2
  have he := HE.out _ (Chg.refl _ _)
  have e1 := he.2.1
  have e2 := he.2.2
  clear he hh T4
  simp only [W2, pcs] at hca hfa c0 e1 e2
  obtain ⟨c0, c1, c2, f2⟩ := c0
  rw [hh1] at hne
  subst hk
  have q1 := HT4.out 1 (by omega)
  have hl4 : h < ((p.tab 1).length : Int) := by omega
  have b1 : (h == 0) = true := by simp [hne]
  have FF := Lib.hid (And.intro hh1 hf1)
  obtain ⟨s, hs⟩ : ∃ s, see p.sw ch.toNat x = s := ⟨_, rfl⟩
  rw [hs] at HR
  have hsT := Lib.hid hs
  have hs0 : 0 ≤ s.2 := by rw [← hs]; exact (seeTo_bd _ _ _ _).1
  have hs1 : s.2 ≤ 3 := by have := (seeTo_bd p.sw ch.toNat x x.cs.length).2; have hl := HS0.out.lens.1; rw [← hs]; unfold see; omega
  obtain ⟨ad, ea, _⟩ := C_rule ((HE.out _ (Chg.refl _ _)).1 1 (by omega)).2 h h00 hl4
  clear hh1 hf1 q1 hne hs
  simp only [W2, pcs] at *
  have EA := Lib.hid ea
  have EV : ∀ l k, (some (Value.slice (A 1) l k)) = some (.slice (some ad) l k) := fun l k => by rw [ea]
  have HEV := Lib.hid EV
  clear ea EV
  go_enter Try.func94, Try.ntmps94
  go_wp2
  go_quiet (fail)
  go_wp2_with fail
  refine (see_calls g a b n ca cb x ch (A 4) (c 4) (p.tab 4) _ (by exact HS0.out.move (fun _ _ => rfl)) hn h0 h1 (by intro w1 hc; exact ((HE.out w1 ⟨hc.os, hc.tape, hc.output, hc.size, hc.block⟩).1 4 (by omega)).2) (HT4.out 4 (by omega)) HCS.out).mono ?_
  rintro e w3 ⟨rfl, hS3, hC3⟩
  rw [show see (p.tab 4) ch.toNat x = s from hsT.out] at hS3 ⊢
  have HS3 := Lib.hid hS3
  have HC3 : Hid (Chg (own3 g a b) _ w3) := Lib.hid (by refine Chg.trans (Chg.refl _ (W2 w A c p ⟨1, ch⟩)) ?_; exact ⟨hC3.os, hC3.tape, hC3.output, hC3.size, hC3.block⟩)
  clear hS3 hC3 c0 c1 c2 f2 hca hfa e1 e2
  have E3 := HE.out _ HC3.out
  obtain ⟨c0, c1, c2, f2⟩ := HS3.out.cells
  have e1 := E3.2.1
  have e2 := E3.2.2
  have hrun := fun ty => clear_run HS3.out hn0 ty
  have hcl := clear_sys HS3.out hn
  clear E3
  have E4 := HE.out _ (HC3.out.trans hcl.2)
  have e2' := E4.2.2
  obtain ⟨d1', C1⟩ := E4.1 1 (by omega)
  replace d1' := d1'.trans (HEV.out _ _)
  obtain ⟨ad', ea', r0', _, r2'⟩ := C_rule C1 h h00 hl4
  obtain rfl : ad' = ad := by have := ea'.symm.trans EA.out; injection this
  clear ea'
  have HS4 := Lib.hid hcl
  have HC4 := Lib.hid (HC3.out.trans hcl.2)
  clear E4 C1 hcl
  obtain ⟨bk, hbk⟩ : ∃ r, (rl (p.tab 1) h).back = r := ⟨_, rfl⟩
  rw [hbk] at r2'
  have HBK := Lib.hid hbk
  clear hbk
  cases bk with
  | true =>
    replace HR := Lib.hid (HR.out.trans (if_pos HBK.out))
    go_wp2
    refine start_ (n := 10) (S := fun w' => w'.cell? ⟨w.heap.size + 1, 1, none⟩ = some (.int .i64 ch) ∧ w'.cell? ⟨w.heap.size, 1, none⟩ = some (.slice (some ad') (p.tab 1).length (c 1)) ∧ w'.cell? (ad'.add (h.toNat * 3)) = some (.int .i64 (rl (p.tab 1) h).next)) (ds := [9]) #[false, false, false, false, false, false, false, false, false, false] (by kernel_rfl) rfl rfl ⟨e2', d1', r0'⟩ (fun hHeld => ?_)
    refine pure_ (i := 0) (N := some 139) (v := ?_) (a' := ?_) #[true, false, false, false, false, false, false, false, false, false] rfl rfl (by kernel_rfl) (fun _ _ _ h => h) (Or.inl ⟨by rfl, ?_⟩) ?_ ?_
    rotate_left
    · intro w'
      go_simp
      with_reducible rfl
    rotate_left
    · simp only [Act.put, List.setIfInBounds_toArray, List.set_cons_zero, List.set_cons_succ, i64_w, i32_w]
      rfl
    refine pure_ (i := 1) (N := some 140) (v := ?_) (a' := ?_) #[true, true, false, false, false, false, false, false, false, false] rfl rfl (by kernel_rfl) (fun _ _ _ h => h) (Or.inl ⟨by rfl, ?_⟩) ?_ ?_
    rotate_left
    · intro w'
      go_simp
      with_reducible rfl
    rotate_left
    · simp only [Act.put, List.setIfInBounds_toArray, List.set_cons_zero, List.set_cons_succ, i64_w, i32_w]
      rfl
    refine pure_ (i := 3) (N := some 142) (v := ?_) (a' := ?_) #[true, true, false, true, false, false, false, false, false, false] rfl rfl (by kernel_rfl) (fun _ _ _ h => h) (Or.inl ⟨by rfl, ?_⟩) ?_ ?_
    rotate_left
    · intro w'
      go_simp
      with_reducible rfl
    rotate_left
    · simp only [Act.put, List.setIfInBounds_toArray, List.set_cons_zero, List.set_cons_succ, i64_w, i32_w]
      rfl
    refine pure_ (i := 5) (N := some 144) (v := ?_) (a' := ?_) #[true, true, false, true, false, true, false, false, false, false] rfl rfl (by kernel_rfl) (fun _ _ _ h => h) (Or.inl ⟨by rfl, ?_⟩) ?_ ?_
    rotate_left
    · intro w'
      go_simp
      with_reducible rfl
    rotate_left
    · simp only [Act.put, List.setIfInBounds_toArray, List.set_cons_zero, List.set_cons_succ, i64_w, i32_w]
      rfl
    refine take_ (i := 2) (N := some 141) (v := ?_) (a' := ?_) #[true, true, true, true, false, true, false, false, false, false] rfl rfl (by kernel_rfl) (fun _ _ _ h => h) (Or.inl ⟨by rfl, ?_⟩) hHeld ?_ ?_
    rotate_left
    · rintro w' ⟨s0, s1, s2⟩
      go_simp
      with_reducible rfl
    rotate_left
    · simp only [Act.put, List.setIfInBounds_toArray, List.set_cons_zero, List.set_cons_succ, i64_w, i32_w]
      rfl
    refine take_ (i := 4) (N := some 143) (v := ?_) (a' := ?_) #[true, true, true, true, true, true, false, false, false, false] rfl rfl (by kernel_rfl) (fun _ _ _ h => h) (Or.inl ⟨by rfl, ?_⟩) hHeld ?_ ?_
    rotate_left
    · rintro w' ⟨s0, s1, s2⟩
      go_simp
      with_reducible rfl
    rotate_left
    · simp only [Act.put, List.setIfInBounds_toArray, List.set_cons_zero, List.set_cons_succ, i64_w, i32_w]
      rfl
    refine pure_ (i := 6) (N := some 145) (v := ?_) (a' := ?_) #[true, true, true, true, true, true, true, false, false, false] rfl rfl (by kernel_rfl) (fun _ _ _ h => h) (Or.inl ⟨by rfl, ?_⟩) ?_ ?_
    rotate_left
    · intro w'
      go_simp
      with_reducible rfl
    rotate_left
    · simp only [Act.put, List.setIfInBounds_toArray, List.set_cons_zero, List.set_cons_succ, i64_w, i32_w]
      rfl
    refine pure_ (i := 7) (N := some 146) (v := ?_) (a' := ?_) #[true, true, true, true, true, true, true, true, false, false] rfl rfl (by kernel_rfl) (fun _ _ _ h => h) (Or.inl ⟨by rfl, ?_⟩) ?_ ?_
    rotate_left
    · intro w'
      go_simp
      with_reducible rfl
    rotate_left
    · simp only [Act.put, List.setIfInBounds_toArray, List.set_cons_zero, List.set_cons_succ, i64_w, i32_w]
      rfl
    refine take_ (i := 8) (N := some 147) (v := ?_) (a' := ?_) #[true, true, true, true, true, true, true, true, true, false] rfl rfl (by kernel_rfl) (fun _ _ _ h => h) (Or.inl ⟨by rfl, ?_⟩) hHeld ?_ ?_
    rotate_left
    · rintro w' ⟨s0, s1, s2⟩
      go_simp
      with_reducible rfl
    rotate_left
    · simp only [Act.put, List.setIfInBounds_toArray, List.set_cons_zero, List.set_cons_succ, i64_w, i32_w]
      rfl
    refine last_ (i := 9) (N := some 148) #[true, true, true, true, true, true, true, true, true, true] rfl rfl (by kernel_rfl) (by decide) (fun K hK => ?_)
    refine goes_ Try.func158 (by kernel_rfl) rfl #[.pointer (some ⟨g, 0, none⟩), .int .i64 ch, .int .i64 (rl (p.tab 1) h).next, .bool true] (by rfl) rfl rfl (by simp only [List.map_toArray, List.map_cons, List.map_nil]; rfl) ?_
    with_reducible refine (become g a b n ca cb s.1.clear ch _ true _ (by exact HS4.out.1.move (fun _ _ => rfl)) h0 h1 hn).mono ?_
    rintro e w5 ⟨rfl, hS5, hC5⟩
    refine ⟨_, rfl, ?_⟩
    have HS5 := Lib.hid hS5
    have HC5 := Lib.hid (HC4.out.drew.trans hC5)
    clear hS5 hC5
    refine hK.out _ _ ?_
    clear hK K
    refine norm_ (a' := ?_) ?_ ?_
    rotate_left
    · show Act.put _ (some 148) _ = _
      simp only [Act.put, List.setIfInBounds_toArray, List.set_cons_zero, List.set_cons_succ, i64_w, i32_w]
      rfl
    refine done_ (by kernel_rfl) ?_
    clear e2' d1' r0' r2'
    have E5 := HE.out _ HC5.out
    obtain ⟨c0, c1, c2, f2⟩ := HS5.out.cells
    have d1 := (E5.1 1 (by omega)).1
    replace d1 := d1.trans (HEV.out _ _)
    have C1 := (E5.1 1 (by omega)).2
    obtain ⟨ad2, ea2, _, _, r2⟩ := C_rule C1 h h00 hl4
    obtain rfl : ad2 = ad' := by have := ea2.symm.trans EA.out; injection this
    clear ea2
    rw [HBK.out] at r2
    have HS6 := Lib.hid (HS5.out.setM true)
    have HC6 : Hid (Chg (own3 g a b) w _) := Lib.hid ((HC0.out.trans HC5.out).setCell (p := ⟨g, 2, none⟩) (.inl (.inl rfl)) (.bool true))
    have z2 := HS6.out.cells.2.2.1
    have hCf := Lib.hid (R_len HS6.out.rf).2.2
    have hLf := Lib.hid HS6.out.lens.2
    clear E5 C1
    have HF := Lib.hid (HR.out.trans (fin_m _ _ _ rfl))
    go_wp2
    go_ret3
    rw [HF.out]
    exact ⟨rfl, HS6.out, HC6.out⟩
  | false =>
    replace HR := Lib.hid (HR.out.trans (if_neg (by rw [show (rl p.wr h).back = _ from HBK.out]; simp)))
    go_wp2
    refine start_ (n := 10) (S := fun w' => w'.cell? ⟨w.heap.size + 1, 1, none⟩ = some (.int .i64 ch) ∧ w'.cell? ⟨w.heap.size, 1, none⟩ = some (.slice (some ad') (p.tab 1).length (c 1)) ∧ w'.cell? (ad'.add (h.toNat * 3)) = some (.int .i64 (rl (p.tab 1) h).next)) (ds := [9]) #[false, false, false, false, false, false, false, false, false, false] (by kernel_rfl) rfl rfl ⟨e2', d1', r0'⟩ (fun hHeld => ?_)
    refine pure_ (i := 0) (N := some 139) (v := ?_) (a' := ?_) #[true, false, false, false, false, false, false, false, false, false] rfl rfl (by kernel_rfl) (fun _ _ _ h => h) (Or.inl ⟨by rfl, ?_⟩) ?_ ?_
    rotate_left
    · intro w'
      go_simp
      with_reducible rfl
    rotate_left
    · simp only [Act.put, List.setIfInBounds_toArray, List.set_cons_zero, List.set_cons_succ, i64_w, i32_w]
      rfl
    refine pure_ (i := 1) (N := some 140) (v := ?_) (a' := ?_) #[true, true, false, false, false, false, false, false, false, false] rfl rfl (by kernel_rfl) (fun _ _ _ h => h) (Or.inl ⟨by rfl, ?_⟩) ?_ ?_
    rotate_left
    · intro w'
      go_simp
      with_reducible rfl
    rotate_left
    · simp only [Act.put, List.setIfInBounds_toArray, List.set_cons_zero, List.set_cons_succ, i64_w, i32_w]
      rfl
    refine pure_ (i := 3) (N := some 142) (v := ?_) (a' := ?_) #[true, true, false, true, false, false, false, false, false, false] rfl rfl (by kernel_rfl) (fun _ _ _ h => h) (Or.inl ⟨by rfl, ?_⟩) ?_ ?_
    rotate_left
    · intro w'
      go_simp
      with_reducible rfl
    rotate_left
    · simp only [Act.put, List.setIfInBounds_toArray, List.set_cons_zero, List.set_cons_succ, i64_w, i32_w]
      rfl
    refine pure_ (i := 5) (N := some 144) (v := ?_) (a' := ?_) #[true, true, false, true, false, true, false, false, false, false] rfl rfl (by kernel_rfl) (fun _ _ _ h => h) (Or.inl ⟨by rfl, ?_⟩) ?_ ?_
    rotate_left
    · intro w'
      go_simp
      with_reducible rfl
    rotate_left
    · simp only [Act.put, List.setIfInBounds_toArray, List.set_cons_zero, List.set_cons_succ, i64_w, i32_w]
      rfl
    refine take_ (i := 2) (N := some 141) (v := ?_) (a' := ?_) #[true, true, true, true, false, true, false, false, false, false] rfl rfl (by kernel_rfl) (fun _ _ _ h => h) (Or.inl ⟨by rfl, ?_⟩) hHeld ?_ ?_
    rotate_left
    · rintro w' ⟨s0, s1, s2⟩
      go_simp
      with_reducible rfl
    rotate_left
    · simp only [Act.put, List.setIfInBounds_toArray, List.set_cons_zero, List.set_cons_succ, i64_w, i32_w]
      rfl
    refine take_ (i := 4) (N := some 143) (v := ?_) (a' := ?_) #[true, true, true, true, true, true, false, false, false, false] rfl rfl (by kernel_rfl) (fun _ _ _ h => h) (Or.inl ⟨by rfl, ?_⟩) hHeld ?_ ?_
    rotate_left
    · rintro w' ⟨s0, s1, s2⟩
      go_simp
      with_reducible rfl
    rotate_left
    · simp only [Act.put, List.setIfInBounds_toArray, List.set_cons_zero, List.set_cons_succ, i64_w, i32_w]
      rfl
    refine pure_ (i := 6) (N := some 145) (v := ?_) (a' := ?_) #[true, true, true, true, true, true, true, false, false, false] rfl rfl (by kernel_rfl) (fun _ _ _ h => h) (Or.inl ⟨by rfl, ?_⟩) ?_ ?_
    rotate_left
    · intro w'
      go_simp
      with_reducible rfl
    rotate_left
    · simp only [Act.put, List.setIfInBounds_toArray, List.set_cons_zero, List.set_cons_succ, i64_w, i32_w]
      rfl
    refine pure_ (i := 7) (N := some 146) (v := ?_) (a' := ?_) #[true, true, true, true, true, true, true, true, false, false] rfl rfl (by kernel_rfl) (fun _ _ _ h => h) (Or.inl ⟨by rfl, ?_⟩) ?_ ?_
    rotate_left
    · intro w'
      go_simp
      with_reducible rfl
    rotate_left
    · simp only [Act.put, List.setIfInBounds_toArray, List.set_cons_zero, List.set_cons_succ, i64_w, i32_w]
      rfl
    refine take_ (i := 8) (N := some 147) (v := ?_) (a' := ?_) #[true, true, true, true, true, true, true, true, true, false] rfl rfl (by kernel_rfl) (fun _ _ _ h => h) (Or.inl ⟨by rfl, ?_⟩) hHeld ?_ ?_
    rotate_left
    · rintro w' ⟨s0, s1, s2⟩
      go_simp
      with_reducible rfl
    rotate_left
    · simp only [Act.put, List.setIfInBounds_toArray, List.set_cons_zero, List.set_cons_succ, i64_w, i32_w]
      rfl
    refine last_ (i := 9) (N := some 148) #[true, true, true, true, true, true, true, true, true, true] rfl rfl (by kernel_rfl) (by decide) (fun K hK => ?_)
    refine goes_ Try.func158 (by kernel_rfl) rfl #[.pointer (some ⟨g, 0, none⟩), .int .i64 ch, .int .i64 (rl (p.tab 1) h).next, .bool true] (by rfl) rfl rfl (by simp only [List.map_toArray, List.map_cons, List.map_nil]; rfl) ?_
    with_reducible refine (become g a b n ca cb s.1.clear ch _ true _ (by exact HS4.out.1.move (fun _ _ => rfl)) h0 h1 hn).mono ?_
    rintro e w5 ⟨rfl, hS5, hC5⟩
    refine ⟨_, rfl, ?_⟩
    have HS5 := Lib.hid hS5
    have HC5 := Lib.hid (HC4.out.drew.trans hC5)
    clear hS5 hC5
    refine hK.out _ _ ?_
    clear hK K
    refine norm_ (a' := ?_) ?_ ?_
    rotate_left
    · show Act.put _ (some 148) _ = _
      simp only [Act.put, List.setIfInBounds_toArray, List.set_cons_zero, List.set_cons_succ, i64_w, i32_w]
      rfl
    refine done_ (by kernel_rfl) ?_
    clear e2' d1' r0' r2'
    have E5 := HE.out _ HC5.out
    obtain ⟨c0, c1, c2, f2⟩ := HS5.out.cells
    have d1 := (E5.1 1 (by omega)).1
    replace d1 := d1.trans (HEV.out _ _)
    have C1 := (E5.1 1 (by omega)).2
    obtain ⟨ad2, ea2, _, _, r2⟩ := C_rule C1 h h00 hl4
    obtain rfl : ad2 = ad' := by have := ea2.symm.trans EA.out; injection this
    clear ea2
    rw [HBK.out] at r2
    have HS6 := Lib.hid (HS5.out.setM false)
    have HC6 : Hid (Chg (own3 g a b) w _) := Lib.hid ((HC0.out.trans HC5.out).setCell (p := ⟨g, 2, none⟩) (.inl (.inl rfl)) (.bool false))
    have z2 := HS6.out.cells.2.2.1
    have hCf := Lib.hid (R_len HS6.out.rf).2.2
    have hLf := Lib.hid HS6.out.lens.2
    clear E5 C1
    have HF := Lib.hid (HR.out.trans (fin_f _ _ _ rfl))
    go_wp2_with fail
    refine (containsT _ _ _ _ _ hCf.out hLf.out).mono ?_
    rintro e w' ⟨rfl, rfl⟩
    go_wp2_with fail
    go_ret3
    rw [HF.out]
    exact ⟨rfl, HS6.out, HC6.out⟩
set_option maxHeartbeats 8000000 in
set_option maxRecDepth 100000 in
theorem step_write_see1 (g a b n ca cb : Nat) (x : Sys) (p : Proto) (v : Value) (o : Op) (w : World) (hS : SysAt w g a b n ca cb x) (hn0 : 0 < n) (hn : n ≤ 3) (hv : ∀ w1, Chg (own3 g a b) w w1 → ProtoV w1 p v)
    (h0 : 0 ≤ o.cache) (h1 : o.cache < n) (hcs : ∀ j, j < n → 0 ≤ x.c j ∧ x.c j ≤ 3) (ht : tabsTo p 5 = true) (hk : o.kind = 1) (hne : x.c o.cache.toNat = 1) :
    Calls Try.prog 94 #[.pointer (some ⟨g, 0, none⟩), v, .agg #[.int .i64 o.kind, .int .i64 o.cache]] w fun e w' => e = .returned (.tuple #[.bool (stepS p x o).2.1, .bool (stepS p x o).2.2.1, .int .i64 (stepS p x o).2.2.2]) ∧ SysAt w' g a b n ca cb (stepS p x o).1 ∧ Chg (own3 g a b) w w' := by
  have HR : Hid (stepS p x o = if (rl p.wr (x.c o.cache.toNat)).back = true then fin (((see p.sw o.cache.toNat x).1.clear.become o.cache.toNat (rl p.wr (x.c o.cache.toNat)).next true).withM true) false true ((see p.sw o.cache.toNat x).2 + 1) else fin (((see p.sw o.cache.toNat x).1.clear.become o.cache.toNat (rl p.wr (x.c o.cache.toNat)).next true).withM false) false true (see p.sw o.cache.toNat x).2) := Lib.hid (by simp only [stepS, hk]; rw [if_neg (by decide), if_pos trivial, if_pos (by exact .inr hne)])
  obtain ⟨_, _, _, g1, g2, g3⟩ := hS.apart
  have hbd : ∀ k, own3 g a b k → k < w.heap.size := by rintro k (rfl | rfl | rfl) <;> assumption
  obtain ⟨A, c, rfl, hA⟩ := proto_fix hv
  have HE := Lib.hid (env_of (o := o) (c := c) hbd hA)
  have HS0 : Hid (SysAt (W2 w A c p o) g a b n ca cb x) := Lib.hid (hS.below (below_al2 w _ _))
  have HC0 : Hid (Chg (own3 g a b) w (W2 w A c p o)) := Lib.hid (((Chg.refl _ _).alloc _).alloc _)
  have hh := hcs o.cache.toNat (by omega)
  have HCS := Lib.hid hcs
  have T4 : ∀ k, k < 5 → (p.tab k).length = 4 := fun k hk => tabsTo_len ht hk
  have HT4 := Lib.hid T4
  obtain ⟨kd, ch⟩ := o
  simp only at *
  clear hS hv hA ht hcs g1 g2 g3 hbd
  obtain ⟨h, hh1⟩ : ∃ h, x.c ch.toNat = h := ⟨_, rfl⟩
  obtain ⟨f, hf1⟩ : ∃ f, x.f ch.toNat = f := ⟨_, rfl⟩
  have c0 : _ ∧ _ := HS0.out.cells
  have hca := (HS0.out.cAt ch h0 h1).1
  have hfa := (HS0.out.fAt ch h0 h1).1
  rw [hh1] at hca hh HR
  rw [hf1] at hfa
  try rw [hf1] at HR
  have h00 : 0 ≤ h := hh.1
  have h03 : h ≤ 3 := hh.2
  have he := HE.out _ (Chg.refl _ _)
  have e1 := he.2.1
  have e2 := he.2.2
  clear he hh T4
  simp only [W2, pcs] at hca hfa c0 e1 e2
  obtain ⟨c0, c1, c2, f2⟩ := c0
  rw [hh1] at hne
  subst hk
  have q1 := HT4.out 1 (by omega)
  have hl4 : h < ((p.tab 1).length : Int) := by omega
  have b1 : (h == 0) = false := by rw [beq_eq_false_iff_ne]; omega
  have b2 : (h == 1) = true := by simp [hne]
  have FF := Lib.hid (And.intro hh1 hf1)
  obtain ⟨s, hs⟩ : ∃ s, see p.sw ch.toNat x = s := ⟨_, rfl⟩
  rw [hs] at HR
  have hsT := Lib.hid hs
  have hs0 : 0 ≤ s.2 := by rw [← hs]; exact (seeTo_bd _ _ _ _).1
  have hs1 : s.2 ≤ 3 := by have := (seeTo_bd p.sw ch.toNat x x.cs.length).2; have hl := HS0.out.lens.1; rw [← hs]; unfold see; omega
  obtain ⟨ad, ea, _⟩ := C_rule ((HE.out _ (Chg.refl _ _)).1 1 (by omega)).2 h h00 hl4
  clear hh1 hf1 q1 hne hs
  simp only [W2, pcs] at *
  have EA := Lib.hid ea
  have EV : ∀ l k, (some (Value.slice (A 1) l k)) = some (.slice (some ad) l k) := fun l k => by rw [ea]
  have HEV := Lib.hid EV
  clear ea EV
  go_enter Try.func94, Try.ntmps94
  go_wp2
  go_quiet (fail)
  go_wp2_with fail
  refine (see_calls g a b n ca cb x ch (A 4) (c 4) (p.tab 4) _ (by exact HS0.out.move (fun _ _ => rfl)) hn h0 h1 (by intro w1 hc; exact ((HE.out w1 ⟨hc.os, hc.tape, hc.output, hc.size, hc.block⟩).1 4 (by omega)).2) (HT4.out 4 (by omega)) HCS.out).mono ?_
  rintro e w3 ⟨rfl, hS3, hC3⟩
  rw [show see (p.tab 4) ch.toNat x = s from hsT.out] at hS3 ⊢
  have HS3 := Lib.hid hS3
  have HC3 : Hid (Chg (own3 g a b) _ w3) := Lib.hid (by refine Chg.trans (Chg.refl _ (W2 w A c p ⟨1, ch⟩)) ?_; exact ⟨hC3.os, hC3.tape, hC3.output, hC3.size, hC3.block⟩)
  clear hS3 hC3 c0 c1 c2 f2 hca hfa e1 e2
  have E3 := HE.out _ HC3.out
  obtain ⟨c0, c1, c2, f2⟩ := HS3.out.cells
  have e1 := E3.2.1
  have e2 := E3.2.2
  have hrun := fun ty => clear_run HS3.out hn0 ty
  have hcl := clear_sys HS3.out hn
  clear E3
  have E4 := HE.out _ (HC3.out.trans hcl.2)
  have e2' := E4.2.2
  obtain ⟨d1', C1⟩ := E4.1 1 (by omega)
  replace d1' := d1'.trans (HEV.out _ _)
  obtain ⟨ad', ea', r0', _, r2'⟩ := C_rule C1 h h00 hl4
  obtain rfl : ad' = ad := by have := ea'.symm.trans EA.out; injection this
  clear ea'
  have HS4 := Lib.hid hcl
  have HC4 := Lib.hid (HC3.out.trans hcl.2)
  clear E4 C1 hcl
  obtain ⟨bk, hbk⟩ : ∃ r, (rl (p.tab 1) h).back = r := ⟨_, rfl⟩
  rw [hbk] at r2'
  have HBK := Lib.hid hbk
  clear hbk
  cases bk with
  | true =>
    replace HR := Lib.hid (HR.out.trans (if_pos HBK.out))
    go_wp2
    refine start_ (n := 10) (S := fun w' => w'.cell? ⟨w.heap.size + 1, 1, none⟩ = some (.int .i64 ch) ∧ w'.cell? ⟨w.heap.size, 1, none⟩ = some (.slice (some ad') (p.tab 1).length (c 1)) ∧ w'.cell? (ad'.add (h.toNat * 3)) = some (.int .i64 (rl (p.tab 1) h).next)) (ds := [9]) #[false, false, false, false, false, false, false, false, false, false] (by kernel_rfl) rfl rfl ⟨e2', d1', r0'⟩ (fun hHeld => ?_)
    refine pure_ (i := 0) (N := some 139) (v := ?_) (a' := ?_) #[true, false, false, false, false, false, false, false, false, false] rfl rfl (by kernel_rfl) (fun _ _ _ h => h) (Or.inl ⟨by rfl, ?_⟩) ?_ ?_
    rotate_left
    · intro w'
      go_simp
      with_reducible rfl
    rotate_left
    · simp only [Act.put, List.setIfInBounds_toArray, List.set_cons_zero, List.set_cons_succ, i64_w, i32_w]
      rfl
    refine pure_ (i := 1) (N := some 140) (v := ?_) (a' := ?_) #[true, true, false, false, false, false, false, false, false, false] rfl rfl (by kernel_rfl) (fun _ _ _ h => h) (Or.inl ⟨by rfl, ?_⟩) ?_ ?_
    rotate_left
    · intro w'
      go_simp
      with_reducible rfl
    rotate_left
    · simp only [Act.put, List.setIfInBounds_toArray, List.set_cons_zero, List.set_cons_succ, i64_w, i32_w]
      rfl
    refine pure_ (i := 3) (N := some 142) (v := ?_) (a' := ?_) #[true, true, false, true, false, false, false, false, false, false] rfl rfl (by kernel_rfl) (fun _ _ _ h => h) (Or.inl ⟨by rfl, ?_⟩) ?_ ?_
    rotate_left
    · intro w'
      go_simp
      with_reducible rfl
    rotate_left
    · simp only [Act.put, List.setIfInBounds_toArray, List.set_cons_zero, List.set_cons_succ, i64_w, i32_w]
      rfl
    refine pure_ (i := 5) (N := some 144) (v := ?_) (a' := ?_) #[true, true, false, true, false, true, false, false, false, false] rfl rfl (by kernel_rfl) (fun _ _ _ h => h) (Or.inl ⟨by rfl, ?_⟩) ?_ ?_
    rotate_left
    · intro w'
      go_simp
      with_reducible rfl
    rotate_left
    · simp only [Act.put, List.setIfInBounds_toArray, List.set_cons_zero, List.set_cons_succ, i64_w, i32_w]
      rfl
    refine take_ (i := 2) (N := some 141) (v := ?_) (a' := ?_) #[true, true, true, true, false, true, false, false, false, false] rfl rfl (by kernel_rfl) (fun _ _ _ h => h) (Or.inl ⟨by rfl, ?_⟩) hHeld ?_ ?_
    rotate_left
    · rintro w' ⟨s0, s1, s2⟩
      go_simp
      with_reducible rfl
    rotate_left
    · simp only [Act.put, List.setIfInBounds_toArray, List.set_cons_zero, List.set_cons_succ, i64_w, i32_w]
      rfl
    refine take_ (i := 4) (N := some 143) (v := ?_) (a' := ?_) #[true, true, true, true, true, true, false, false, false, false] rfl rfl (by kernel_rfl) (fun _ _ _ h => h) (Or.inl ⟨by rfl, ?_⟩) hHeld ?_ ?_
    rotate_left
    · rintro w' ⟨s0, s1, s2⟩
      go_simp
      with_reducible rfl
    rotate_left
    · simp only [Act.put, List.setIfInBounds_toArray, List.set_cons_zero, List.set_cons_succ, i64_w, i32_w]
      rfl
    refine pure_ (i := 6) (N := some 145) (v := ?_) (a' := ?_) #[true, true, true, true, true, true, true, false, false, false] rfl rfl (by kernel_rfl) (fun _ _ _ h => h) (Or.inl ⟨by rfl, ?_⟩) ?_ ?_
    rotate_left
    · intro w'
      go_simp
      with_reducible rfl
    rotate_left
    · simp only [Act.put, List.setIfInBounds_toArray, List.set_cons_zero, List.set_cons_succ, i64_w, i32_w]
      rfl
    refine pure_ (i := 7) (N := some 146) (v := ?_) (a' := ?_) #[true, true, true, true, true, true, true, true, false, false] rfl rfl (by kernel_rfl) (fun _ _ _ h => h) (Or.inl ⟨by rfl, ?_⟩) ?_ ?_
    rotate_left
    · intro w'
      go_simp
      with_reducible rfl
    rotate_left
    · simp only [Act.put, List.setIfInBounds_toArray, List.set_cons_zero, List.set_cons_succ, i64_w, i32_w]
      rfl
    refine take_ (i := 8) (N := some 147) (v := ?_) (a' := ?_) #[true, true, true, true, true, true, true, true, true, false] rfl rfl (by kernel_rfl) (fun _ _ _ h => h) (Or.inl ⟨by rfl, ?_⟩) hHeld ?_ ?_
    rotate_left
    · rintro w' ⟨s0, s1, s2⟩
      go_simp
      with_reducible rfl
    rotate_left
    · simp only [Act.put, List.setIfInBounds_toArray, List.set_cons_zero, List.set_cons_succ, i64_w, i32_w]
      rfl
    refine last_ (i := 9) (N := some 148) #[true, true, true, true, true, true, true, true, true, true] rfl rfl (by kernel_rfl) (by decide) (fun K hK => ?_)
    refine goes_ Try.func158 (by kernel_rfl) rfl #[.pointer (some ⟨g, 0, none⟩), .int .i64 ch, .int .i64 (rl (p.tab 1) h).next, .bool true] (by rfl) rfl rfl (by simp only [List.map_toArray, List.map_cons, List.map_nil]; rfl) ?_
    with_reducible refine (become g a b n ca cb s.1.clear ch _ true _ (by exact HS4.out.1.move (fun _ _ => rfl)) h0 h1 hn).mono ?_
    rintro e w5 ⟨rfl, hS5, hC5⟩
    refine ⟨_, rfl, ?_⟩
    have HS5 := Lib.hid hS5
    have HC5 := Lib.hid (HC4.out.drew.trans hC5)
    clear hS5 hC5
    refine hK.out _ _ ?_
    clear hK K
    refine norm_ (a' := ?_) ?_ ?_
    rotate_left
    · show Act.put _ (some 148) _ = _
      simp only [Act.put, List.setIfInBounds_toArray, List.set_cons_zero, List.set_cons_succ, i64_w, i32_w]
      rfl
    refine done_ (by kernel_rfl) ?_
    clear e2' d1' r0' r2'
    have E5 := HE.out _ HC5.out
    obtain ⟨c0, c1, c2, f2⟩ := HS5.out.cells
    have d1 := (E5.1 1 (by omega)).1
    replace d1 := d1.trans (HEV.out _ _)
    have C1 := (E5.1 1 (by omega)).2
    obtain ⟨ad2, ea2, _, _, r2⟩ := C_rule C1 h h00 hl4
    obtain rfl : ad2 = ad' := by have := ea2.symm.trans EA.out; injection this
    clear ea2
    rw [HBK.out] at r2
    have HS6 := Lib.hid (HS5.out.setM true)
    have HC6 : Hid (Chg (own3 g a b) w _) := Lib.hid ((HC0.out.trans HC5.out).setCell (p := ⟨g, 2, none⟩) (.inl (.inl rfl)) (.bool true))
    have z2 := HS6.out.cells.2.2.1
    have hCf := Lib.hid (R_len HS6.out.rf).2.2
    have hLf := Lib.hid HS6.out.lens.2
    clear E5 C1
    have HF := Lib.hid (HR.out.trans (fin_m _ _ _ rfl))
    go_wp2
    go_ret3
    rw [HF.out]
    exact ⟨rfl, HS6.out, HC6.out⟩
  | false =>
    replace HR := Lib.hid (HR.out.trans (if_neg (by rw [show (rl p.wr h).back = _ from HBK.out]; simp)))
    go_wp2
    refine start_ (n := 10) (S := fun w' => w'.cell? ⟨w.heap.size + 1, 1, none⟩ = some (.int .i64 ch) ∧ w'.cell? ⟨w.heap.size, 1, none⟩ = some (.slice (some ad') (p.tab 1).length (c 1)) ∧ w'.cell? (ad'.add (h.toNat * 3)) = some (.int .i64 (rl (p.tab 1) h).next)) (ds := [9]) #[false, false, false, false, false, false, false, false, false, false] (by kernel_rfl) rfl rfl ⟨e2', d1', r0'⟩ (fun hHeld => ?_)
    refine pure_ (i := 0) (N := some 139) (v := ?_) (a' := ?_) #[true, false, false, false, false, false, false, false, false, false] rfl rfl (by kernel_rfl) (fun _ _ _ h => h) (Or.inl ⟨by rfl, ?_⟩) ?_ ?_
    rotate_left
    · intro w'
      go_simp
      with_reducible rfl
    rotate_left
    · simp only [Act.put, List.setIfInBounds_toArray, List.set_cons_zero, List.set_cons_succ, i64_w, i32_w]
      rfl
    refine pure_ (i := 1) (N := some 140) (v := ?_) (a' := ?_) #[true, true, false, false, false, false, false, false, false, false] rfl rfl (by kernel_rfl) (fun _ _ _ h => h) (Or.inl ⟨by rfl, ?_⟩) ?_ ?_
    rotate_left
    · intro w'
      go_simp
      with_reducible rfl
    rotate_left
    · simp only [Act.put, List.setIfInBounds_toArray, List.set_cons_zero, List.set_cons_succ, i64_w, i32_w]
      rfl
    refine pure_ (i := 3) (N := some 142) (v := ?_) (a' := ?_) #[true, true, false, true, false, false, false, false, false, false] rfl rfl (by kernel_rfl) (fun _ _ _ h => h) (Or.inl ⟨by rfl, ?_⟩) ?_ ?_
    rotate_left
    · intro w'
      go_simp
      with_reducible rfl
    rotate_left
    · simp only [Act.put, List.setIfInBounds_toArray, List.set_cons_zero, List.set_cons_succ, i64_w, i32_w]
      rfl
    refine pure_ (i := 5) (N := some 144) (v := ?_) (a' := ?_) #[true, true, false, true, false, true, false, false, false, false] rfl rfl (by kernel_rfl) (fun _ _ _ h => h) (Or.inl ⟨by rfl, ?_⟩) ?_ ?_
    rotate_left
    · intro w'
      go_simp
      with_reducible rfl
    rotate_left
    · simp only [Act.put, List.setIfInBounds_toArray, List.set_cons_zero, List.set_cons_succ, i64_w, i32_w]
      rfl
    refine take_ (i := 2) (N := some 141) (v := ?_) (a' := ?_) #[true, true, true, true, false, true, false, false, false, false] rfl rfl (by kernel_rfl) (fun _ _ _ h => h) (Or.inl ⟨by rfl, ?_⟩) hHeld ?_ ?_
    rotate_left
    · rintro w' ⟨s0, s1, s2⟩
      go_simp
      with_reducible rfl
    rotate_left
    · simp only [Act.put, List.setIfInBounds_toArray, List.set_cons_zero, List.set_cons_succ, i64_w, i32_w]
      rfl
    refine take_ (i := 4) (N := some 143) (v := ?_) (a' := ?_) #[true, true, true, true, true, true, false, false, false, false] rfl rfl (by kernel_rfl) (fun _ _ _ h => h) (Or.inl ⟨by rfl, ?_⟩) hHeld ?_ ?_
    rotate_left
    · rintro w' ⟨s0, s1, s2⟩
      go_simp
      with_reducible rfl
    rotate_left
    · simp only [Act.put, List.setIfInBounds_toArray, List.set_cons_zero, List.set_cons_succ, i64_w, i32_w]
      rfl
    refine pure_ (i := 6) (N := some 145) (v := ?_) (a' := ?_) #[true, true, true, true, true, true, true, false, false, false] rfl rfl (by kernel_rfl) (fun _ _ _ h => h) (Or.inl ⟨by rfl, ?_⟩) ?_ ?_
    rotate_left
    · intro w'
      go_simp
      with_reducible rfl
    rotate_left
    · simp only [Act.put, List.setIfInBounds_toArray, List.set_cons_zero, List.set_cons_succ, i64_w, i32_w]
      rfl
    refine pure_ (i := 7) (N := some 146) (v := ?_) (a' := ?_) #[true, true, true, true, true, true, true, true, false, false] rfl rfl (by kernel_rfl) (fun _ _ _ h => h) (Or.inl ⟨by rfl, ?_⟩) ?_ ?_
    rotate_left
    · intro w'
      go_simp
      with_reducible rfl
    rotate_left
    · simp only [Act.put, List.setIfInBounds_toArray, List.set_cons_zero, List.set_cons_succ, i64_w, i32_w]
      rfl
    refine take_ (i := 8) (N := some 147) (v := ?_) (a' := ?_) #[true, true, true, true, true, true, true, true, true, false] rfl rfl (by kernel_rfl) (fun _ _ _ h => h) (Or.inl ⟨by rfl, ?_⟩) hHeld ?_ ?_
    rotate_left
    · rintro w' ⟨s0, s1, s2⟩
      go_simp
      with_reducible rfl
    rotate_left
    · simp only [Act.put, List.setIfInBounds_toArray, List.set_cons_zero, List.set_cons_succ, i64_w, i32_w]
      rfl
    refine last_ (i := 9) (N := some 148) #[true, true, true, true, true, true, true, true, true, true] rfl rfl (by kernel_rfl) (by decide) (fun K hK => ?_)
    refine goes_ Try.func158 (by kernel_rfl) rfl #[.pointer (some ⟨g, 0, none⟩), .int .i64 ch, .int .i64 (rl (p.tab 1) h).next, .bool true] (by rfl) rfl rfl (by simp only [List.map_toArray, List.map_cons, List.map_nil]; rfl) ?_
    with_reducible refine (become g a b n ca cb s.1.clear ch _ true _ (by exact HS4.out.1.move (fun _ _ => rfl)) h0 h1 hn).mono ?_
    rintro e w5 ⟨rfl, hS5, hC5⟩
    refine ⟨_, rfl, ?_⟩
    have HS5 := Lib.hid hS5
    have HC5 := Lib.hid (HC4.out.drew.trans hC5)
    clear hS5 hC5
    refine hK.out _ _ ?_
    clear hK K
    refine norm_ (a' := ?_) ?_ ?_
    rotate_left
    · show Act.put _ (some 148) _ = _
      simp only [Act.put, List.setIfInBounds_toArray, List.set_cons_zero, List.set_cons_succ, i64_w, i32_w]
      rfl
    refine done_ (by kernel_rfl) ?_
    clear e2' d1' r0' r2'
    have E5 := HE.out _ HC5.out
    obtain ⟨c0, c1, c2, f2⟩ := HS5.out.cells
    have d1 := (E5.1 1 (by omega)).1
    replace d1 := d1.trans (HEV.out _ _)
    have C1 := (E5.1 1 (by omega)).2
    obtain ⟨ad2, ea2, _, _, r2⟩ := C_rule C1 h h00 hl4
    obtain rfl : ad2 = ad' := by have := ea2.symm.trans EA.out; injection this
    clear ea2
    rw [HBK.out] at r2
    have HS6 := Lib.hid (HS5.out.setM false)
    have HC6 : Hid (Chg (own3 g a b) w _) := Lib.hid ((HC0.out.trans HC5.out).setCell (p := ⟨g, 2, none⟩) (.inl (.inl rfl)) (.bool false))
    have z2 := HS6.out.cells.2.2.1
    have hCf := Lib.hid (R_len HS6.out.rf).2.2
    have hLf := Lib.hid HS6.out.lens.2
    clear E5 C1
    have HF := Lib.hid (HR.out.trans (fin_f _ _ _ rfl))
    go_wp2_with fail
    refine (containsT _ _ _ _ _ hCf.out hLf.out).mono ?_
    rintro e w' ⟨rfl, rfl⟩
    go_wp2_with fail
    go_ret3
    rw [HF.out]
    exact ⟨rfl, HS6.out, HC6.out⟩
end Go.Proofs.Ytfeabjiccnnpcaa.Ca
