import Derived.Test.YtfeabjiccnnpcaaCd
set_option linter.unusedVariables false
set_option linter.unusedSimpArgs false
namespace Go.Proofs.Ytfeabjiccnnpcaa.Ca
open Go.RowKit Go.Proofs.YtfeabjiccnnpcaaW.PrintWords Go.Proofs.YtfeabjiccnnpcaaW.PrintLast Go.Proofs.Ytfeabjiccnnpcaa.Ba

def anyF (fs : List Bool) : Bool := fs.any (fun x => true == x)
def fin (y : Sys) (flaw seen : Bool) (b : Int) : Sys × Bool × Bool × Int := (y, flaw || (!y.m && !anyF y.fs), seen, b)
def Sys.clear (x : Sys) : Sys := ⟨x.cs, x.fs.map (fun _ => false), x.m⟩
/-- what an op does -/
def stepS (p : Proto) (x : Sys) (o : Op) : Sys × Bool × Bool × Int :=
  let c := o.cache.toNat
  let h := x.c c
  if o.kind = 0 then
    if h ≠ 0 then fin (x.become c (rl p.rd h).next (x.f c)) (!x.f c) false 0
    else
      let s := see p.sr c x
      if s.1.cs.any (fun x => x != 0) = true then fin (s.1.become c (rl p.rd 0).shared s.1.m) (!s.1.m) true s.2
      else fin (s.1.become c (rl p.rd 0).next s.1.m) (!s.1.m) true s.2
  else if o.kind = 1 then
    if h = 0 ∨ h = 1 then
      let s := see p.sw c x
      if (rl p.wr h).back = true then fin ((s.1.clear.become c (rl p.wr h).next true).withM true) false true (s.2 + 1)
      else fin ((s.1.clear.become c (rl p.wr h).next true).withM false) false true s.2
    else
      if (rl p.wr h).back = true then fin ((x.clear.become c (rl p.wr h).next true).withM true) false false 1
      else fin ((x.clear.become c (rl p.wr h).next true).withM false) false false 0
  else
    if (rl p.ev h).back = true then fin ((x.withM (x.f c)).become c 0 false) false false 1
    else fin (x.become c 0 false) false false 0

/-- the tables' rows, fixed -/
theorem proto_fix {S : Nat → Prop} {w : World} {p : Proto} {v : Value} (hv : ∀ w1, Chg S w w1 → ProtoV w1 p v) : ∃ (A : Nat → Option Addr) (c : Nat → Nat),
    v = .agg #[.slice (A 0) (p.tab 0).length (c 0), .slice (A 1) (p.tab 1).length (c 1), .slice (A 2) (p.tab 2).length (c 2), .slice (A 3) (p.tab 3).length (c 3), .slice (A 4) (p.tab 4).length (c 4)] ∧
    ∀ k, k < 5 → ∀ w1, Chg S w w1 → Kd.C kRule w1 (A k) (p.tab k).length (p.tab k) := by
  obtain ⟨A0, c0, A1, c1, A2, c2, A3, c3, A4, c4, e, h0, k0, h1, k1, h2, k2, h3, k3, h4, k4⟩ := hv w (Chg.refl _ _)
  refine ⟨fun | 0 => A0 | 1 => A1 | 2 => A2 | 3 => A3 | _ => A4, fun | 0 => c0 | 1 => c1 | 2 => c2 | 3 => c3 | _ => c4, e, fun k hk w1 hc => ?_⟩
  obtain ⟨B0, d0, B1, d1, B2, d2, B3, d3, B4, d4, e', _, m0, _, m1, _, m2, _, m3, _, m4⟩ := hv w1 hc
  rw [e] at e'
  injection e' with e'
  simp at e'
  obtain ⟨⟨f0, _⟩, ⟨f1, _⟩, ⟨f2, _⟩, ⟨f3, _⟩, f4, _⟩ := e'
  subst f0 f1 f2 f3 f4
  match k, hk with
  | 0, _ => exact m0
  | 1, _ => exact m1
  | 2, _ => exact m2
  | 3, _ => exact m3
  | 4, _ => exact m4

/-- the block of a protocol that is boxed -/
def pcs (A : Nat → Option Addr) (c : Nat → Nat) (p : Proto) : Array Value := #[.slice (A 0) (p.tab 0).length (c 0), .slice (A 1) (p.tab 1).length (c 1), .slice (A 2) (p.tab 2).length (c 2), .slice (A 3) (p.tab 3).length (c 3), .slice (A 4) (p.tab 4).length (c 4)]
/-- what a step reads beside the system -/
def Env (A : Nat → Option Addr) (c : Nat → Nat) (w1 : World) (h : Nat) (p : Proto) (o : Op) : Prop :=
  (∀ k, k < 5 → w1.cell? ⟨h, k, none⟩ = some (.slice (A k) (p.tab k).length (c k)) ∧ Kd.C kRule w1 (A k) (p.tab k).length (p.tab k)) ∧ w1.cell? ⟨h + 1, 0, none⟩ = some (.int .i64 o.kind) ∧ w1.cell? ⟨h + 1, 1, none⟩ = some (.int .i64 o.cache)
def W2 (w : World) (A : Nat → Option Addr) (c : Nat → Nat) (p : Proto) (o : Op) : World := (w.alloc (.cells (pcs A c p) 50)).alloc (.cells #[.int .i64 o.kind, .int .i64 o.cache] 72)
theorem env_of {w : World} {g a b : Nat} {p : Proto} {o : Op} {A : Nat → Option Addr} {c : Nat → Nat} (hg : ∀ k, own3 g a b k → k < w.heap.size) (hA : ∀ k, k < 5 → ∀ w1, Chg (own3 g a b) w w1 → Kd.C kRule w1 (A k) (p.tab k).length (p.tab k)) :
    ∀ w1, Chg (own3 g a b) (W2 w A c p o) w1 → Env A c w1 w.heap.size p o := by
  intro w1 hc
  have h1 : w1.heap[w.heap.size]? = some (.cells (pcs A c p) 50 (0, 0)) := by
    rw [hc.block w.heap.size (by simp [W2]; omega) (fun h => Nat.lt_irrefl _ (hg _ h)), W2, Below.heap_alloc _ _ _ (by simp)]
    exact heap_alloc_new w _
  have h2 : w1.heap[w.heap.size + 1]? = some (.cells #[.int .i64 o.kind, .int .i64 o.cache] 72 (0, 0)) := by
    rw [hc.block (w.heap.size + 1) (by simp [W2]) (fun h => by have := hg _ h; omega)]
    have := heap_alloc_new (w.alloc (.cells (pcs A c p) 50)) (.cells #[.int .i64 o.kind, .int .i64 o.cache] 72)
    simpa [W2] using this
  have hw : Chg (own3 g a b) w w1 := Chg.trans (((Chg.refl _ _).alloc _).alloc _) hc
  refine ⟨fun k hk => ⟨?_, hA k hk w1 hw⟩, cell_blk h2 0 _ rfl, cell_blk h2 1 _ rfl⟩
  match k, hk with
  | 0, _ => exact cell_blk h1 0 _ rfl
  | 1, _ => exact cell_blk h1 1 _ rfl
  | 2, _ => exact cell_blk h1 2 _ rfl
  | 3, _ => exact cell_blk h1 3 _ rfl
  | 4, _ => exact cell_blk h1 4 _ rfl

theorem below_al2 (w : World) (o o' : Obj) : Below w.heap.size w ((w.alloc o).alloc o') := (((Below.refl _ _).alloc (Nat.le_refl _) o).alloc (by simp) o')
theorem Chg.heap {S : Nat → Prop} {a b c : World} (h : Chg S a b) (h1 : c.os = b.os) (h2 : c.tape = b.tape) (h3 : c.output = b.output) (h4 : c.heap = b.heap) : Chg S a c := ⟨h1.trans h.os, h2.trans h.tape, h3.trans h.output, by rw [h4]; exact h.size, fun k hk hs => by rw [h4]; exact h.block k hk hs⟩
theorem containsAny (A : Option Addr) (n c : Nat) (xs : List Int) (w : World) (hr : Kd.C (Kd.int .i64) w A n xs) (hn : xs.length = n) :
    Calls Try.prog 160 #[.slice A n c, .func (.func 161) #[] #[]] w fun e w' => e = .returned (.bool (xs.any (fun x => x != 0))) ∧ Below w.heap.size w w' := by
  subst hn
  exact containsFunc160 A c 161 #[] xs (fun x => x != 0) w hr (enters _ _ _ Try.func161 (by kernel_rfl) rfl) (fun x _ => nonzero_pays _ x)

theorem fin_true (y : Sys) (s : Bool) (b : Int) : fin y true s b = (y, true, s, b) := by simp [fin]
theorem fin_m (y : Sys) (s : Bool) (b : Int) (h : y.m = true) : fin y false s b = (y, false, s, b) := by simp [fin, h]
theorem fin_f (y : Sys) (s : Bool) (b : Int) (h : y.m = false) : fin y false s b = (y, !anyF y.fs, s, b) := by simp [fin, h]
theorem containsT (A : Option Addr) (n c : Nat) (xs : List Bool) (w : World) (hr : Kd.C Kd.bool w A n xs) (hn : xs.length = n) :
    Calls Try.prog 162 #[.slice A n c, .bool true] w fun e w' => e = .returned (.bool (anyF xs)) ∧ w' = w := by
  subst hn
  exact contains162 A c true xs w hr

set_option maxHeartbeats 8000000 in
set_option maxRecDepth 100000 in
theorem step_hit (g a b n ca cb : Nat) (x : Sys) (p : Proto) (v : Value) (o : Op) (w : World) (hS : SysAt w g a b n ca cb x) (hn0 : 0 < n) (hn : n ≤ 3) (hv : ∀ w1, Chg (own3 g a b) w w1 → ProtoV w1 p v)
    (h0 : 0 ≤ o.cache) (h1 : o.cache < n) (hcs : ∀ j, j < n → 0 ≤ x.c j ∧ x.c j ≤ 3) (ht : tabsTo p 5 = true) (hk : o.kind = 0) (hne : x.c o.cache.toNat ≠ 0) :
    Calls Try.prog 94 #[.pointer (some ⟨g, 0, none⟩), v, .agg #[.int .i64 o.kind, .int .i64 o.cache]] w fun e w' => e = .returned (.tuple #[.bool (stepS p x o).2.1, .bool (stepS p x o).2.2.1, .int .i64 (stepS p x o).2.2.2]) ∧ SysAt w' g a b n ca cb (stepS p x o).1 ∧ Chg (own3 g a b) w w' := by
  have HR : Hid (stepS p x o = fin (x.become o.cache.toNat (rl p.rd (x.c o.cache.toNat)).next (x.f o.cache.toNat)) (!x.f o.cache.toNat) false 0) := Lib.hid (by simp [stepS, hk, hne])
  obtain ⟨_, _, _, g1, g2, g3⟩ := hS.apart
  have hbd : ∀ k, own3 g a b k → k < w.heap.size := by rintro k (rfl | rfl | rfl) <;> assumption
  obtain ⟨A, c, rfl, hA⟩ := proto_fix hv
  have HE := Lib.hid (env_of (o := o) (c := c) hbd hA)
  have HS0 : Hid (SysAt (W2 w A c p o) g a b n ca cb x) := Lib.hid (hS.below (below_al2 w _ _))
  have HC0 : Hid (Chg (own3 g a b) w (W2 w A c p o)) := Lib.hid (((Chg.refl _ _).alloc _).alloc _)
  have hh := hcs o.cache.toNat (by omega)
  have HCS := Lib.hid hcs
  have T4 : ∀ k, k < 5 → (p.tab k).length = 4 := fun k hk => tabsTo_len ht hk
  have HT4 := Lib.hid T4
  obtain ⟨kd, ch⟩ := o
  simp only at *
  clear hS hv hA ht hcs g1 g2 g3 hbd
  obtain ⟨h, hh1⟩ : ∃ h, x.c ch.toNat = h := ⟨_, rfl⟩
  obtain ⟨f, hf1⟩ : ∃ f, x.f ch.toNat = f := ⟨_, rfl⟩
  have c0 : _ ∧ _ := HS0.out.cells
  have hca := (HS0.out.cAt ch h0 h1).1
  have hfa := (HS0.out.fAt ch h0 h1).1
  rw [hh1] at hca hh HR
  rw [hf1] at hfa
  try rw [hf1] at HR
  have h00 : 0 ≤ h := hh.1
  have h03 : h ≤ 3 := hh.2
  have he := HE.out _ (Chg.refl _ _)
  have e1 := he.2.1
  have e2 := he.2.2
  clear he hh T4
  simp only [W2, pcs] at hca hfa c0 e1 e2
  obtain ⟨c0, c1, c2, f2⟩ := c0
  rw [hh1] at hne
  subst hk
  obtain ⟨d0, C0⟩ := (HE.out _ (Chg.refl _ _)).1 0 (by omega)
  have q0 := HT4.out 0 (by omega)
  have hl4 : h < ((p.tab 0).length : Int) := by omega
  obtain ⟨ad, ea, r0, _, _⟩ := C_rule C0 h h00 hl4
  rw [ea] at d0
  have b2 : (h == 0) = false := by rw [beq_eq_false_iff_ne]; exact hne
  have b3 : (h != 0) = true := by rw [bne_iff_ne]; exact hne
  simp only [W2, pcs, ea] at *
  have FF := Lib.hid (And.intro hh1 hf1)
  clear hh1 hf1 C0 q0 hne ea
  go_enter Try.func94, Try.ntmps94
  go_wp2
  go_quiet (fail)
  go_wp2
  go_quiet (fail)
  go_wp2
  refine start_ (n := 18) (S := fun w' => w'.cell? ⟨w.heap.size + 1, 1, none⟩ = some (.int .i64 ch) ∧ w'.cell? ⟨w.heap.size, 0, none⟩ = some (.slice (some ad) (p.tab 0).length (c 0)) ∧ w'.cell? (ad.add (h.toNat * 3)) = some (.int .i64 (rl (p.tab 0) h).next) ∧ w'.cell? ⟨g, 1, none⟩ = some (.slice (some ⟨b, 0, none⟩) n cb) ∧ w'.cell? ⟨b, ch.toNat, none⟩ = some (.bool f)) (ds := [17]) #[false, false, false, false, false, false, false, false, false, false, false, false, false, false, false, false, false, false] (by kernel_rfl) rfl rfl ⟨e2, d0, r0, c1, hfa⟩ (fun hHeld => ?_)
  refine pure_ (i := 0) (N := some 62) (v := ?_) (a' := ?_) #[true, false, false, false, false, false, false, false, false, false, false, false, false, false, false, false, false, false] rfl rfl (by kernel_rfl) (fun _ _ _ h => h) (Or.inl ⟨by rfl, ?_⟩) ?_ ?_
  rotate_left
  · intro w'
    go_simp
    with_reducible rfl
  rotate_left
  · simp only [Act.put, List.setIfInBounds_toArray, List.set_cons_zero, List.set_cons_succ, i64_w, i32_w]
    rfl
  refine pure_ (i := 1) (N := some 63) (v := ?_) (a' := ?_) #[true, true, false, false, false, false, false, false, false, false, false, false, false, false, false, false, false, false] rfl rfl (by kernel_rfl) (fun _ _ _ h => h) (Or.inl ⟨by rfl, ?_⟩) ?_ ?_
  rotate_left
  · intro w'
    go_simp
    with_reducible rfl
  rotate_left
  · simp only [Act.put, List.setIfInBounds_toArray, List.set_cons_zero, List.set_cons_succ, i64_w, i32_w]
    rfl
  refine pure_ (i := 3) (N := some 65) (v := ?_) (a' := ?_) #[true, true, false, true, false, false, false, false, false, false, false, false, false, false, false, false, false, false] rfl rfl (by kernel_rfl) (fun _ _ _ h => h) (Or.inl ⟨by rfl, ?_⟩) ?_ ?_
  rotate_left
  · intro w'
    go_simp
    with_reducible rfl
  rotate_left
  · simp only [Act.put, List.setIfInBounds_toArray, List.set_cons_zero, List.set_cons_succ, i64_w, i32_w]
    rfl
  refine pure_ (i := 5) (N := some 67) (v := ?_) (a' := ?_) #[true, true, false, true, false, true, false, false, false, false, false, false, false, false, false, false, false, false] rfl rfl (by kernel_rfl) (fun _ _ _ h => h) (Or.inl ⟨by rfl, ?_⟩) ?_ ?_
  rotate_left
  · intro w'
    go_simp
    with_reducible rfl
  rotate_left
  · simp only [Act.put, List.setIfInBounds_toArray, List.set_cons_zero, List.set_cons_succ, i64_w, i32_w]
    rfl
  refine pure_ (i := 9) (N := some 71) (v := ?_) (a' := ?_) #[true, true, false, true, false, true, false, false, false, true, false, false, false, false, false, false, false, false] rfl rfl (by kernel_rfl) (fun _ _ _ h => h) (Or.inl ⟨by rfl, ?_⟩) ?_ ?_
  rotate_left
  · intro w'
    go_simp
    with_reducible rfl
  rotate_left
  · simp only [Act.put, List.setIfInBounds_toArray, List.set_cons_zero, List.set_cons_succ, i64_w, i32_w]
    rfl
  refine pure_ (i := 10) (N := some 72) (v := ?_) (a' := ?_) #[true, true, false, true, false, true, false, false, false, true, true, false, false, false, false, false, false, false] rfl rfl (by kernel_rfl) (fun _ _ _ h => h) (Or.inl ⟨by rfl, ?_⟩) ?_ ?_
  rotate_left
  · intro w'
    go_simp
    with_reducible rfl
  rotate_left
  · simp only [Act.put, List.setIfInBounds_toArray, List.set_cons_zero, List.set_cons_succ, i64_w, i32_w]
    rfl
  refine pure_ (i := 11) (N := some 73) (v := ?_) (a' := ?_) #[true, true, false, true, false, true, false, false, false, true, true, true, false, false, false, false, false, false] rfl rfl (by kernel_rfl) (fun _ _ _ h => h) (Or.inl ⟨by rfl, ?_⟩) ?_ ?_
  rotate_left
  · intro w'
    go_simp
    with_reducible rfl
  rotate_left
  · simp only [Act.put, List.setIfInBounds_toArray, List.set_cons_zero, List.set_cons_succ, i64_w, i32_w]
    rfl
  refine pure_ (i := 13) (N := some 75) (v := ?_) (a' := ?_) #[true, true, false, true, false, true, false, false, false, true, true, true, false, true, false, false, false, false] rfl rfl (by kernel_rfl) (fun _ _ _ h => h) (Or.inl ⟨by rfl, ?_⟩) ?_ ?_
  rotate_left
  · intro w'
    go_simp
    with_reducible rfl
  rotate_left
  · simp only [Act.put, List.setIfInBounds_toArray, List.set_cons_zero, List.set_cons_succ, i64_w, i32_w]
    rfl
  refine take_ (i := 2) (N := some 64) (v := ?_) (a' := ?_) #[true, true, true, true, false, true, false, false, false, true, true, true, false, true, false, false, false, false] rfl rfl (by kernel_rfl) (fun _ _ _ h => h) (Or.inl ⟨by rfl, ?_⟩) hHeld ?_ ?_
  rotate_left
  · rintro w' ⟨s0, s1, s2, s3, s4⟩
    go_simp
    with_reducible rfl
  rotate_left
  · simp only [Act.put, List.setIfInBounds_toArray, List.set_cons_zero, List.set_cons_succ, i64_w, i32_w]
    rfl
  refine take_ (i := 4) (N := some 66) (v := ?_) (a' := ?_) #[true, true, true, true, true, true, false, false, false, true, true, true, false, true, false, false, false, false] rfl rfl (by kernel_rfl) (fun _ _ _ h => h) (Or.inl ⟨by rfl, ?_⟩) hHeld ?_ ?_
  rotate_left
  · rintro w' ⟨s0, s1, s2, s3, s4⟩
    go_simp
    with_reducible rfl
  rotate_left
  · simp only [Act.put, List.setIfInBounds_toArray, List.set_cons_zero, List.set_cons_succ, i64_w, i32_w]
    rfl
  refine pure_ (i := 6) (N := some 68) (v := ?_) (a' := ?_) #[true, true, true, true, true, true, true, false, false, true, true, true, false, true, false, false, false, false] rfl rfl (by kernel_rfl) (fun _ _ _ h => h) (Or.inl ⟨by rfl, ?_⟩) ?_ ?_
  rotate_left
  · intro w'
    go_simp
    with_reducible rfl
  rotate_left
  · simp only [Act.put, List.setIfInBounds_toArray, List.set_cons_zero, List.set_cons_succ, i64_w, i32_w]
    rfl
  refine pure_ (i := 7) (N := some 69) (v := ?_) (a' := ?_) #[true, true, true, true, true, true, true, true, false, true, true, true, false, true, false, false, false, false] rfl rfl (by kernel_rfl) (fun _ _ _ h => h) (Or.inl ⟨by rfl, ?_⟩) ?_ ?_
  rotate_left
  · intro w'
    go_simp
    with_reducible rfl
  rotate_left
  · simp only [Act.put, List.setIfInBounds_toArray, List.set_cons_zero, List.set_cons_succ, i64_w, i32_w]
    rfl
  refine take_ (i := 8) (N := some 70) (v := ?_) (a' := ?_) #[true, true, true, true, true, true, true, true, true, true, true, true, false, true, false, false, false, false] rfl rfl (by kernel_rfl) (fun _ _ _ h => h) (Or.inl ⟨by rfl, ?_⟩) hHeld ?_ ?_
  rotate_left
  · rintro w' ⟨s0, s1, s2, s3, s4⟩
    go_simp
    with_reducible rfl
  rotate_left
  · simp only [Act.put, List.setIfInBounds_toArray, List.set_cons_zero, List.set_cons_succ, i64_w, i32_w]
    rfl
  refine take_ (i := 12) (N := some 74) (v := ?_) (a' := ?_) #[true, true, true, true, true, true, true, true, true, true, true, true, true, true, false, false, false, false] rfl rfl (by kernel_rfl) (fun _ _ _ h => h) (Or.inl ⟨by rfl, ?_⟩) hHeld ?_ ?_
  rotate_left
  · rintro w' ⟨s0, s1, s2, s3, s4⟩
    go_simp
    with_reducible rfl
  rotate_left
  · simp only [Act.put, List.setIfInBounds_toArray, List.set_cons_zero, List.set_cons_succ, i64_w, i32_w]
    rfl
  refine take_ (i := 14) (N := some 76) (v := ?_) (a' := ?_) #[true, true, true, true, true, true, true, true, true, true, true, true, true, true, true, false, false, false] rfl rfl (by kernel_rfl) (fun _ _ _ h => h) (Or.inl ⟨by rfl, ?_⟩) hHeld ?_ ?_
  rotate_left
  · rintro w' ⟨s0, s1, s2, s3, s4⟩
    go_simp
    with_reducible rfl
  rotate_left
  · simp only [Act.put, List.setIfInBounds_toArray, List.set_cons_zero, List.set_cons_succ, i64_w, i32_w]
    rfl
  refine pure_ (i := 15) (N := some 77) (v := ?_) (a' := ?_) #[true, true, true, true, true, true, true, true, true, true, true, true, true, true, true, true, false, false] rfl rfl (by kernel_rfl) (fun _ _ _ h => h) (Or.inl ⟨by rfl, ?_⟩) ?_ ?_
  rotate_left
  · intro w'
    go_simp
    with_reducible rfl
  rotate_left
  · simp only [Act.put, List.setIfInBounds_toArray, List.set_cons_zero, List.set_cons_succ, i64_w, i32_w]
    rfl
  refine take_ (i := 16) (N := some 78) (v := ?_) (a' := ?_) #[true, true, true, true, true, true, true, true, true, true, true, true, true, true, true, true, true, false] rfl rfl (by kernel_rfl) (fun _ _ _ h => h) (Or.inl ⟨by rfl, ?_⟩) hHeld ?_ ?_
  rotate_left
  · rintro w' ⟨s0, s1, s2, s3, s4⟩
    go_simp
    with_reducible rfl
  rotate_left
  · simp only [Act.put, List.setIfInBounds_toArray, List.set_cons_zero, List.set_cons_succ, i64_w, i32_w]
    rfl
  refine last_ (i := 17) (N := some 79) #[true, true, true, true, true, true, true, true, true, true, true, true, true, true, true, true, true, true] rfl rfl (by kernel_rfl) (by decide) (fun K hK => ?_)
  refine goes_ Try.func158 (by kernel_rfl) rfl #[.pointer (some ⟨g, 0, none⟩), .int .i64 ch, .int .i64 (rl (p.tab 0) h).next, .bool f] (by rfl) rfl rfl (by simp only [List.map_toArray, List.map_cons, List.map_nil]; rfl) ?_
  with_reducible refine (become g a b n ca cb x ch _ f _ (by exact HS0.out.move (fun _ _ => rfl)) h0 h1 hn).mono ?_
  rintro e w3 ⟨rfl, hS3, hC3⟩
  refine ⟨_, rfl, ?_⟩
  have HS3 := Lib.hid hS3
  have HC3 : Hid (Chg (own3 g a b) w w3) := Lib.hid (by refine Chg.trans ?_ hC3; exact ⟨HC0.out.os, HC0.out.tape, HC0.out.output, HC0.out.size, HC0.out.block⟩)
  clear hS3 hC3
  refine hK.out _ _ ?_
  clear hK K
  refine norm_ (a' := ?_) ?_ ?_
  rotate_left
  · show Act.put _ (some 79) _ = _
    simp only [Act.put, List.setIfInBounds_toArray, List.set_cons_zero, List.set_cons_succ, i64_w, i32_w]
    rfl
  refine done_ (by kernel_rfl) ?_
  clear c0 c1 c2 f2 hca hfa e1 e2 d0 r0
  cases f with
  | false =>
    obtain ⟨yc0, yc1, yc2, yf2⟩ := HS3.out.cells
    have HF := Lib.hid (HR.out.trans (fin_true _ _ _))
    go_wp2
    go_ret3
    rw [HF.out]
    exact ⟨rfl, HS3.out, HC3.out⟩
  | true =>
    obtain ⟨yc0, yc1, yc2, yf2⟩ := HS3.out.cells
    have hCf := Lib.hid (R_len HS3.out.rf).2.2
    have hLf := Lib.hid HS3.out.lens.2
    obtain ⟨ym, hym⟩ : ∃ m, Sys.m (x.become ch.toNat (rl (p.tab 0) h).next true) = m := ⟨_, rfl⟩
    rw [hym] at yc2
    have HYM := Lib.hid hym
    clear hym
    cases ym with
    | true =>
      have HF := Lib.hid (HR.out.trans (fin_m _ _ _ HYM.out))
      go_wp2
      go_ret3
      rw [HF.out]
      exact ⟨rfl, HS3.out, HC3.out⟩
    | false =>
      have HF := Lib.hid (HR.out.trans (fin_f _ _ _ HYM.out))
      go_wp2_with (go_at_call 162; refine (containsT _ _ _ _ _ hCf.out hLf.out).mono ?_; rintro e w' ⟨rfl, rfl⟩)
      go_ret3
      rw [HF.out]
      exact ⟨rfl, HS3.out, HC3.out⟩

set_option maxHeartbeats 8000000 in
set_option maxRecDepth 100000 in
theorem step_miss (g a b n ca cb : Nat) (x : Sys) (p : Proto) (v : Value) (o : Op) (w : World) (hS : SysAt w g a b n ca cb x) (hn0 : 0 < n) (hn : n ≤ 3) (hv : ∀ w1, Chg (own3 g a b) w w1 → ProtoV w1 p v)
    (h0 : 0 ≤ o.cache) (h1 : o.cache < n) (hcs : ∀ j, j < n → 0 ≤ x.c j ∧ x.c j ≤ 3) (ht : tabsTo p 5 = true) (hk : o.kind = 0) (hne : x.c o.cache.toNat = 0) :
    Calls Try.prog 94 #[.pointer (some ⟨g, 0, none⟩), v, .agg #[.int .i64 o.kind, .int .i64 o.cache]] w fun e w' => e = .returned (.tuple #[.bool (stepS p x o).2.1, .bool (stepS p x o).2.2.1, .int .i64 (stepS p x o).2.2.2]) ∧ SysAt w' g a b n ca cb (stepS p x o).1 ∧ Chg (own3 g a b) w w' := by
  have HR : Hid (stepS p x o = if (see p.sr o.cache.toNat x).1.cs.any (fun x => x != 0) = true then fin ((see p.sr o.cache.toNat x).1.become o.cache.toNat (rl p.rd (0 + 0 * x.c o.cache.toNat)).shared (see p.sr o.cache.toNat x).1.m) (!(see p.sr o.cache.toNat x).1.m) true (see p.sr o.cache.toNat x).2 else fin ((see p.sr o.cache.toNat x).1.become o.cache.toNat (rl p.rd (0 + 0 * x.c o.cache.toNat)).next (see p.sr o.cache.toNat x).1.m) (!(see p.sr o.cache.toNat x).1.m) true (see p.sr o.cache.toNat x).2) := Lib.hid (by simp [stepS, hk, hne])
  obtain ⟨_, _, _, g1, g2, g3⟩ := hS.apart
  have hbd : ∀ k, own3 g a b k → k < w.heap.size := by rintro k (rfl | rfl | rfl) <;> assumption
  obtain ⟨A, c, rfl, hA⟩ := proto_fix hv
  have HE := Lib.hid (env_of (o := o) (c := c) hbd hA)
  have HS0 : Hid (SysAt (W2 w A c p o) g a b n ca cb x) := Lib.hid (hS.below (below_al2 w _ _))
  have HC0 : Hid (Chg (own3 g a b) w (W2 w A c p o)) := Lib.hid (((Chg.refl _ _).alloc _).alloc _)
  have hh := hcs o.cache.toNat (by omega)
  have HCS := Lib.hid hcs
  have T4 : ∀ k, k < 5 → (p.tab k).length = 4 := fun k hk => tabsTo_len ht hk
  have HT4 := Lib.hid T4
  obtain ⟨kd, ch⟩ := o
  simp only at *
  clear hS hv hA ht hcs g1 g2 g3 hbd
  obtain ⟨h, hh1⟩ : ∃ h, x.c ch.toNat = h := ⟨_, rfl⟩
  obtain ⟨f, hf1⟩ : ∃ f, x.f ch.toNat = f := ⟨_, rfl⟩
  have c0 : _ ∧ _ := HS0.out.cells
  have hca := (HS0.out.cAt ch h0 h1).1
  have hfa := (HS0.out.fAt ch h0 h1).1
  rw [hh1] at hca hh HR
  rw [hf1] at hfa
  try rw [hf1] at HR
  have h00 : 0 ≤ h := hh.1
  have h03 : h ≤ 3 := hh.2
  have he := HE.out _ (Chg.refl _ _)
  have e1 := he.2.1
  have e2 := he.2.2
  clear he hh T4
  simp only [W2, pcs] at hca hfa c0 e1 e2
  obtain ⟨c0, c1, c2, f2⟩ := c0
  rw [hh1] at hne
  subst hk hne
  simp only [Int.zero_mul, Int.add_zero] at HR
  simp only [W2, pcs] at *
  obtain ⟨s, hs⟩ : ∃ s, see p.sr ch.toNat x = s := ⟨_, rfl⟩
  rw [hs] at HR
  have hsT := Lib.hid hs
  have FF := Lib.hid (And.intro hh1 hf1)
  clear hh1 hf1 hs
  go_enter Try.func94, Try.ntmps94
  go_wp2
  go_quiet (fail)
  go_wp2_with fail
  refine (see_calls g a b n ca cb x ch (A 3) (c 3) (p.tab 3) _ (by exact HS0.out.move (fun _ _ => rfl)) hn h0 h1 (by intro w1 hc; exact ((HE.out w1 ⟨hc.os, hc.tape, hc.output, hc.size, hc.block⟩).1 3 (by omega)).2) (HT4.out 3 (by omega)) HCS.out).mono ?_
  rintro e w3 ⟨rfl, hS3, hC3⟩
  rw [show see (p.tab 3) ch.toNat x = s from hsT.out] at hS3 ⊢
  have HS3 := Lib.hid hS3
  have HC3 : Hid (Chg (own3 g a b) _ w3) := Lib.hid (by refine Chg.trans (Chg.refl _ (W2 w A c p ⟨0, ch⟩)) ?_; exact ⟨hC3.os, hC3.tape, hC3.output, hC3.size, hC3.block⟩)
  clear hS3 hC3 c0 c1 c2 f2 hca hfa e1 e2
  have E3 := HE.out _ HC3.out
  obtain ⟨c0, c1, c2, f2⟩ := HS3.out.cells
  have e1 := E3.2.1
  have e2 := E3.2.2
  obtain ⟨d0, C0⟩ := E3.1 0 (by omega)
  have q0 := HT4.out 0 (by omega)
  obtain ⟨ad, ea, r0, r1, _⟩ := C_rule_0 C0 (by omega)
  have hl0 : (0 : Int) < ((p.tab 0).length : Int) := by omega
  have hl0' : 0 < (p.tab 0).length := by omega
  rw [ea] at d0
  obtain ⟨mm, hmm⟩ : ∃ m, s.1.m = m := ⟨_, rfl⟩
  rw [hmm] at c2 HR
  have HMM := Lib.hid hmm
  clear E3 C0 q0 hmm
  go_wp2_with fail
  refine (containsAny _ _ _ s.1.cs _ (R_len HS3.out.rc).2.2 (R_len HS3.out.rc).1).mono ?_
  rintro e w4 ⟨rfl, hb4⟩
  have HS4 := Lib.hid (HS3.out.below hb4)
  have HC4 : Hid (Chg (own3 g a b) _ w4) := Lib.hid (HC3.out.trans (Chg.ofBelow hb4))
  have E4 := HE.out _ HC4.out
  obtain ⟨c0', c1', c2', f2'⟩ := HS4.out.cells
  have e1' := E4.2.1
  have e2' := E4.2.2
  have d0' := cell_old hb4 d0
  have r0' := cell_old hb4 r0
  have r1' := cell_old hb4 r1
  rw [HMM.out] at c2'
  clear c0 c1 c2 f2 e1 e2 d0 r0 r1 hb4 E4
  cases hany : s.1.cs.any (fun x => x != 0) with
  | true =>
    replace HR := Lib.hid (HR.out.trans (if_pos hany))
    go_wp2
    refine start_ (n := 9) (S := fun w' => w'.cell? ⟨w.heap.size + 1, 1, none⟩ = some (.int .i64 ch) ∧ w'.cell? ⟨g, 2, none⟩ = some (.bool mm)) (ds := [8]) #[false, false, false, false, false, false, false, false, false] (by kernel_rfl) rfl rfl ⟨e2', c2'⟩ (fun hHeld => ?_)
    refine pure_ (i := 0) (N := some 110) (v := ?_) (a' := ?_) #[true, false, false, false, false, false, false, false, false] rfl rfl (by kernel_rfl) (fun _ _ _ h => h) (Or.inl ⟨by rfl, ?_⟩) ?_ ?_
    rotate_left
    · intro w'
      go_simp
      with_reducible rfl
    rotate_left
    · simp only [Act.put, List.setIfInBounds_toArray, List.set_cons_zero, List.set_cons_succ, i64_w, i32_w]
      rfl
    refine pure_ (i := 1) (N := some 111) (v := ?_) (a' := ?_) #[true, true, false, false, false, false, false, false, false] rfl rfl (by kernel_rfl) (fun _ _ _ h => h) (Or.inl ⟨by rfl, ?_⟩) ?_ ?_
    rotate_left
    · intro w'
      go_simp
      with_reducible rfl
    rotate_left
    · simp only [Act.put, List.setIfInBounds_toArray, List.set_cons_zero, List.set_cons_succ, i64_w, i32_w]
      rfl
    refine pure_ (i := 3) (N := some 113) (v := ?_) (a' := ?_) #[true, true, false, true, false, false, false, false, false] rfl rfl (by kernel_rfl) (fun _ _ _ h => h) (Or.inl ⟨by rfl, ?_⟩) ?_ ?_
    rotate_left
    · intro w'
      go_simp
      with_reducible rfl
    rotate_left
    · simp only [Act.put, List.setIfInBounds_toArray, List.set_cons_zero, List.set_cons_succ, i64_w, i32_w]
      rfl
    refine pure_ (i := 4) (N := some 114) (v := ?_) (a' := ?_) #[true, true, false, true, true, false, false, false, false] rfl rfl (by kernel_rfl) (fun _ _ _ h => h) (Or.inl ⟨by rfl, ?_⟩) ?_ ?_
    rotate_left
    · intro w'
      go_simp
      with_reducible rfl
    rotate_left
    · simp only [Act.put, List.setIfInBounds_toArray, List.set_cons_zero, List.set_cons_succ, i64_w, i32_w]
      rfl
    refine pure_ (i := 5) (N := some 115) (v := ?_) (a' := ?_) #[true, true, false, true, true, true, false, false, false] rfl rfl (by kernel_rfl) (fun _ _ _ h => h) (Or.inl ⟨by rfl, ?_⟩) ?_ ?_
    rotate_left
    · intro w'
      go_simp
      with_reducible rfl
    rotate_left
    · simp only [Act.put, List.setIfInBounds_toArray, List.set_cons_zero, List.set_cons_succ, i64_w, i32_w]
      rfl
    refine pure_ (i := 6) (N := some 116) (v := ?_) (a' := ?_) #[true, true, false, true, true, true, true, false, false] rfl rfl (by kernel_rfl) (fun _ _ _ h => h) (Or.inl ⟨by rfl, ?_⟩) ?_ ?_
    rotate_left
    · intro w'
      go_simp
      with_reducible rfl
    rotate_left
    · simp only [Act.put, List.setIfInBounds_toArray, List.set_cons_zero, List.set_cons_succ, i64_w, i32_w]
      rfl
    refine take_ (i := 2) (N := some 112) (v := ?_) (a' := ?_) #[true, true, true, true, true, true, true, false, false] rfl rfl (by kernel_rfl) (fun _ _ _ h => h) (Or.inl ⟨by rfl, ?_⟩) hHeld ?_ ?_
    rotate_left
    · rintro w' ⟨s0, s1⟩
      go_simp
      with_reducible rfl
    rotate_left
    · simp only [Act.put, List.setIfInBounds_toArray, List.set_cons_zero, List.set_cons_succ, i64_w, i32_w]
      rfl
    refine take_ (i := 7) (N := some 117) (v := ?_) (a' := ?_) #[true, true, true, true, true, true, true, true, false] rfl rfl (by kernel_rfl) (fun _ _ _ h => h) (Or.inl ⟨by rfl, ?_⟩) hHeld ?_ ?_
    rotate_left
    · rintro w' ⟨s0, s1⟩
      go_simp
      with_reducible rfl
    rotate_left
    · simp only [Act.put, List.setIfInBounds_toArray, List.set_cons_zero, List.set_cons_succ, i64_w, i32_w]
      rfl
    refine last_ (i := 8) (N := some 118) #[true, true, true, true, true, true, true, true, true] rfl rfl (by kernel_rfl) (by decide) (fun K hK => ?_)
    refine goes_ Try.func158 (by kernel_rfl) rfl #[.pointer (some ⟨g, 0, none⟩), .int .i64 ch, .int .i64 (rl (p.tab 0) 0).shared, .bool mm] (by rfl) rfl rfl (by simp only [List.map_toArray, List.map_cons, List.map_nil]; rfl) ?_
    with_reducible refine (become g a b n ca cb s.1 ch _ mm _ (by exact HS4.out.move (fun _ _ => rfl)) h0 h1 hn).mono ?_
    rintro e w5 ⟨rfl, hS5, hC5⟩
    refine ⟨_, rfl, ?_⟩
    have HS5 := Lib.hid hS5
    have HC5 : Hid (Chg (own3 g a b) w w5) := Lib.hid (by refine Chg.trans ?_ hC5; have h := HC0.out.trans HC4.out; exact ⟨h.os, h.tape, h.output, h.size, h.block⟩)
    clear hS5 hC5
    refine hK.out _ _ ?_
    clear hK K
    refine norm_ (a' := ?_) ?_ ?_
    rotate_left
    · show Act.put _ (some 118) _ = _
      simp only [Act.put, List.setIfInBounds_toArray, List.set_cons_zero, List.set_cons_succ, i64_w, i32_w]
      rfl
    refine done_ (by kernel_rfl) ?_
    clear c0' c1' c2' f2' e1' e2' d0' r0' r1'
    cases mm with
    | false =>
      obtain ⟨yc0, yc1, yc2, yf2⟩ := HS5.out.cells
      have HF := Lib.hid (HR.out.trans (fin_true _ _ _))
      go_wp2
      go_ret3
      rw [HF.out]
      exact ⟨rfl, HS5.out, HC5.out⟩
    | true =>
      obtain ⟨yc0, yc1, yc2, yf2⟩ := HS5.out.cells
      have hCf := Lib.hid (R_len HS5.out.rf).2.2
      have hLf := Lib.hid HS5.out.lens.2
      obtain ⟨ym, hym⟩ : ∃ m, Sys.m (s.1.become ch.toNat (rl (p.tab 0) 0).shared true) = m := ⟨_, rfl⟩
      rw [hym] at yc2
      have HYM := Lib.hid hym
      clear hym
      cases ym with
      | true =>
        have HF := Lib.hid (HR.out.trans (fin_m _ _ _ HYM.out))
        go_wp2
        go_ret3
        rw [HF.out]
        exact ⟨rfl, HS5.out, HC5.out⟩
      | false =>
        have HF := Lib.hid (HR.out.trans (fin_f _ _ _ HYM.out))
        go_wp2_with (go_at_call 162; refine (containsT _ _ _ _ _ hCf.out hLf.out).mono ?_; rintro e w' ⟨rfl, rfl⟩)
        go_ret3
        rw [HF.out]
        exact ⟨rfl, HS5.out, HC5.out⟩
  | false =>
    replace HR := Lib.hid (HR.out.trans (if_neg (by simp [hany])))
    go_wp2
    refine start_ (n := 9) (S := fun w' => w'.cell? ⟨w.heap.size + 1, 1, none⟩ = some (.int .i64 ch) ∧ w'.cell? ⟨g, 2, none⟩ = some (.bool mm)) (ds := [8]) #[false, false, false, false, false, false, false, false, false] (by kernel_rfl) rfl rfl ⟨e2', c2'⟩ (fun hHeld => ?_)
    refine pure_ (i := 0) (N := some 110) (v := ?_) (a' := ?_) #[true, false, false, false, false, false, false, false, false] rfl rfl (by kernel_rfl) (fun _ _ _ h => h) (Or.inl ⟨by rfl, ?_⟩) ?_ ?_
    rotate_left
    · intro w'
      go_simp
      with_reducible rfl
    rotate_left
    · simp only [Act.put, List.setIfInBounds_toArray, List.set_cons_zero, List.set_cons_succ, i64_w, i32_w]
      rfl
    refine pure_ (i := 1) (N := some 111) (v := ?_) (a' := ?_) #[true, true, false, false, false, false, false, false, false] rfl rfl (by kernel_rfl) (fun _ _ _ h => h) (Or.inl ⟨by rfl, ?_⟩) ?_ ?_
    rotate_left
    · intro w'
      go_simp
      with_reducible rfl
    rotate_left
    · simp only [Act.put, List.setIfInBounds_toArray, List.set_cons_zero, List.set_cons_succ, i64_w, i32_w]
      rfl
    refine pure_ (i := 3) (N := some 113) (v := ?_) (a' := ?_) #[true, true, false, true, false, false, false, false, false] rfl rfl (by kernel_rfl) (fun _ _ _ h => h) (Or.inl ⟨by rfl, ?_⟩) ?_ ?_
    rotate_left
    · intro w'
      go_simp
      with_reducible rfl
    rotate_left
    · simp only [Act.put, List.setIfInBounds_toArray, List.set_cons_zero, List.set_cons_succ, i64_w, i32_w]
      rfl
    refine pure_ (i := 4) (N := some 114) (v := ?_) (a' := ?_) #[true, true, false, true, true, false, false, false, false] rfl rfl (by kernel_rfl) (fun _ _ _ h => h) (Or.inl ⟨by rfl, ?_⟩) ?_ ?_
    rotate_left
    · intro w'
      go_simp
      with_reducible rfl
    rotate_left
    · simp only [Act.put, List.setIfInBounds_toArray, List.set_cons_zero, List.set_cons_succ, i64_w, i32_w]
      rfl
    refine pure_ (i := 5) (N := some 115) (v := ?_) (a' := ?_) #[true, true, false, true, true, true, false, false, false] rfl rfl (by kernel_rfl) (fun _ _ _ h => h) (Or.inl ⟨by rfl, ?_⟩) ?_ ?_
    rotate_left
    · intro w'
      go_simp
      with_reducible rfl
    rotate_left
    · simp only [Act.put, List.setIfInBounds_toArray, List.set_cons_zero, List.set_cons_succ, i64_w, i32_w]
      rfl
    refine pure_ (i := 6) (N := some 116) (v := ?_) (a' := ?_) #[true, true, false, true, true, true, true, false, false] rfl rfl (by kernel_rfl) (fun _ _ _ h => h) (Or.inl ⟨by rfl, ?_⟩) ?_ ?_
    rotate_left
    · intro w'
      go_simp
      with_reducible rfl
    rotate_left
    · simp only [Act.put, List.setIfInBounds_toArray, List.set_cons_zero, List.set_cons_succ, i64_w, i32_w]
      rfl
    refine take_ (i := 2) (N := some 112) (v := ?_) (a' := ?_) #[true, true, true, true, true, true, true, false, false] rfl rfl (by kernel_rfl) (fun _ _ _ h => h) (Or.inl ⟨by rfl, ?_⟩) hHeld ?_ ?_
    rotate_left
    · rintro w' ⟨s0, s1⟩
      go_simp
      with_reducible rfl
    rotate_left
    · simp only [Act.put, List.setIfInBounds_toArray, List.set_cons_zero, List.set_cons_succ, i64_w, i32_w]
      rfl
    refine take_ (i := 7) (N := some 117) (v := ?_) (a' := ?_) #[true, true, true, true, true, true, true, true, false] rfl rfl (by kernel_rfl) (fun _ _ _ h => h) (Or.inl ⟨by rfl, ?_⟩) hHeld ?_ ?_
    rotate_left
    · rintro w' ⟨s0, s1⟩
      go_simp
      with_reducible rfl
    rotate_left
    · simp only [Act.put, List.setIfInBounds_toArray, List.set_cons_zero, List.set_cons_succ, i64_w, i32_w]
      rfl
    refine last_ (i := 8) (N := some 118) #[true, true, true, true, true, true, true, true, true] rfl rfl (by kernel_rfl) (by decide) (fun K hK => ?_)
    refine goes_ Try.func158 (by kernel_rfl) rfl #[.pointer (some ⟨g, 0, none⟩), .int .i64 ch, .int .i64 (rl (p.tab 0) 0).next, .bool mm] (by rfl) rfl rfl (by simp only [List.map_toArray, List.map_cons, List.map_nil]; rfl) ?_
    with_reducible refine (become g a b n ca cb s.1 ch _ mm _ (by exact HS4.out.move (fun _ _ => rfl)) h0 h1 hn).mono ?_
    rintro e w5 ⟨rfl, hS5, hC5⟩
    refine ⟨_, rfl, ?_⟩
    have HS5 := Lib.hid hS5
    have HC5 : Hid (Chg (own3 g a b) w w5) := Lib.hid (by refine Chg.trans ?_ hC5; have h := HC0.out.trans HC4.out; exact ⟨h.os, h.tape, h.output, h.size, h.block⟩)
    clear hS5 hC5
    refine hK.out _ _ ?_
    clear hK K
    refine norm_ (a' := ?_) ?_ ?_
    rotate_left
    · show Act.put _ (some 118) _ = _
      simp only [Act.put, List.setIfInBounds_toArray, List.set_cons_zero, List.set_cons_succ, i64_w, i32_w]
      rfl
    refine done_ (by kernel_rfl) ?_
    clear c0' c1' c2' f2' e1' e2' d0' r0' r1'
    cases mm with
    | false =>
      obtain ⟨yc0, yc1, yc2, yf2⟩ := HS5.out.cells
      have HF := Lib.hid (HR.out.trans (fin_true _ _ _))
      go_wp2
      go_ret3
      rw [HF.out]
      exact ⟨rfl, HS5.out, HC5.out⟩
    | true =>
      obtain ⟨yc0, yc1, yc2, yf2⟩ := HS5.out.cells
      have hCf := Lib.hid (R_len HS5.out.rf).2.2
      have hLf := Lib.hid HS5.out.lens.2
      obtain ⟨ym, hym⟩ : ∃ m, Sys.m (s.1.become ch.toNat (rl (p.tab 0) 0).next true) = m := ⟨_, rfl⟩
      rw [hym] at yc2
      have HYM := Lib.hid hym
      clear hym
      cases ym with
      | true =>
        have HF := Lib.hid (HR.out.trans (fin_m _ _ _ HYM.out))
        go_wp2
        go_ret3
        rw [HF.out]
        exact ⟨rfl, HS5.out, HC5.out⟩
      | false =>
        have HF := Lib.hid (HR.out.trans (fin_f _ _ _ HYM.out))
        go_wp2_with (go_at_call 162; refine (containsT _ _ _ _ _ hCf.out hLf.out).mono ?_; rintro e w' ⟨rfl, rfl⟩)
        go_ret3
        rw [HF.out]
        exact ⟨rfl, HS5.out, HC5.out⟩
end Go.Proofs.Ytfeabjiccnnpcaa.Ca
