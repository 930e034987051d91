import Derived.Test.YtfeabjiccnnpcaaSc
set_option linter.unusedVariables false
set_option linter.unusedSimpArgs false
namespace Go.Proofs.Ytfeabjiccnnpcaa.Ca
open Go.RowKit Go.Proofs.YtfeabjiccnnpcaaW.PrintWords Go.Proofs.YtfeabjiccnnpcaaW.PrintLast Go.Proofs.Ytfeabjiccnnpcaa.Ba

theorem C_lit (W : World) (xs : List Int) (hn : xs.length ≤ 1000) : Kd.C (Kd.int .i64) (W.alloc (.cells (xs.map (Value.int .i64)).toArray 2)) (some ⟨W.heap.size, 0, none⟩) xs.length xs := by
  have h := World.ownsRow_lit (base := 0) (e := 2) (size := 1) W (xs.map (Value.int .i64)).toArray xs.length (Nat.zero_le _) (by simp only [maxLen]; omega) (by simp)
  have h2 : (Kd.int .i64).R 2 (W.alloc (.cells (xs.map (Value.int .i64)).toArray 2)) 0 (fun _ => True) (.slice (some ⟨W.heap.size, 0, none⟩) xs.length xs.length) xs :=
    Kd.R_of_own (h1 := fun _ => rfl) (by simpa [encs] using h) (fun _ _ => trivial)
  obtain ⟨A, c, he, _, hC⟩ := Kd.R_reads h2
  injection he with e1 e2 e3
  rw [e1]; exact hC

theorem rulesLit (G : Nat) (W : World) (g c d n : Nat) (hs : W.heap.size = g) (hG : G ≤ g) (xs ys : List Int) (hx : xs.length = 4) (hy : ys.length ≤ 4) (hn : n = ys.length) :
    Calls Try.prog 164 #[.slice (some ⟨g, 0, none⟩) 4 c, .slice (some ⟨g + 1, 0, none⟩) n d] ((W.alloc (.cells (xs.map (Value.int .i64)).toArray 2)).alloc (.cells (ys.map (Value.int .i64)).toArray 2)) fun e w' => ∃ A a, e = .returned (.slice A 4 a) ∧ Kd.R kRule 145 w' 0 (fun k => G ≤ k) (.slice A 4 a) (rules xs ys) ∧ Below W.heap.size W w' := by
  subst hn
  have h1 := Kd.C_below (C_lit W xs (by omega)) ((Below.refl _ _).alloc (Nat.le_refl _) (.cells (ys.map (Value.int .i64)).toArray 2))
  have h2 := C_lit (W.alloc (.cells (xs.map (Value.int .i64)).toArray 2)) ys (by omega)
  have e2 : (W.alloc (.cells (xs.map (Value.int .i64)).toArray 2)).heap.size = g + 1 := by simp [hs]
  rw [hs, hx] at h1
  rw [e2] at h2
  refine (l10Rules _ _ c d xs ys _ hx h1 h2).mono ?_
  rintro e w' ⟨v, rfl, hR, hb⟩
  obtain ⟨A, a, rfl⟩ := Kd.R_slice hR
  exact ⟨A, a, rfl, Kd.R_lower (Kd.R_mono hR (fun k hk => by simp at hk; omega)) (Nat.zero_le _), (below_al2 W _ _).trans (hb.mono (by simp; omega))⟩

/-- five lists of rules, each read in the last world -/
theorem proto_mk {w : World} {ok : Nat → Prop} {p : Proto} {v0 v1 v2 v3 v4 : Value} (h0 : Kd.R kRule 145 w 0 ok v0 p.rd) (h1 : Kd.R kRule 145 w 0 ok v1 p.wr) (h2 : Kd.R kRule 145 w 0 ok v2 p.ev) (h3 : Kd.R kRule 145 w 0 ok v3 p.sr) (h4 : Kd.R kRule 145 w 0 ok v4 p.sw) : ProtoV w p (.agg #[v0, v1, v2, v3, v4]) := by
  obtain ⟨A0, c0, rfl, l0, k0⟩ := Kd.R_reads h0
  obtain ⟨A1, c1, rfl, l1, k1⟩ := Kd.R_reads h1
  obtain ⟨A2, c2, rfl, l2, k2⟩ := Kd.R_reads h2
  obtain ⟨A3, c3, rfl, l3, k3⟩ := Kd.R_reads h3
  obtain ⟨A4, c4, rfl, l4, k4⟩ := Kd.R_reads h4
  exact ⟨A0, c0, A1, c1, A2, c2, A3, c3, A4, c4, rfl, l0, k0, l1, k1, l2, k2, l3, k3, l4, k4⟩

/-- a protocol whose rows lie at B and behind -/
def ProtoR (w : World) (B : Nat) (p : Proto) (v : Value) : Prop := ∃ (AA : Nat → Option Addr) (cc : Nat → Nat), v = .agg #[.slice (AA 0) 4 (cc 0), .slice (AA 1) 4 (cc 1), .slice (AA 2) 4 (cc 2), .slice (AA 3) 4 (cc 3), .slice (AA 4) 4 (cc 4)] ∧ ∀ k, k < 5 → Kd.R kRule 145 w 0 (fun q => B ≤ q) (.slice (AA k) 4 (cc k)) (p.tab k)
theorem protoR_mk {w : World} {B : Nat} {p : Proto} {A0 A1 A2 A3 A4 : Option Addr} {a0 a1 a2 a3 a4 : Nat} (h0 : Kd.R kRule 145 w 0 (fun q => B ≤ q) (.slice A0 4 a0) p.rd) (h1 : Kd.R kRule 145 w 0 (fun q => B ≤ q) (.slice A1 4 a1) p.wr) (h2 : Kd.R kRule 145 w 0 (fun q => B ≤ q) (.slice A2 4 a2) p.ev) (h3 : Kd.R kRule 145 w 0 (fun q => B ≤ q) (.slice A3 4 a3) p.sr) (h4 : Kd.R kRule 145 w 0 (fun q => B ≤ q) (.slice A4 4 a4) p.sw) : ProtoR w B p (.agg #[.slice A0 4 a0, .slice A1 4 a1, .slice A2 4 a2, .slice A3 4 a3, .slice A4 4 a4]) := by
  refine ⟨fun k => match k with | 0 => A0 | 1 => A1 | 2 => A2 | 3 => A3 | _ => A4, fun k => match k with | 0 => a0 | 1 => a1 | 2 => a2 | 3 => a3 | _ => a4, rfl, fun k hk => ?_⟩
  match k, hk with
  | 0, _ => exact h0
  | 1, _ => exact h1
  | 2, _ => exact h2
  | 3, _ => exact h3
  | 4, _ => exact h4
def msiP (first : Int) : Proto := ⟨rules [first, 1, 2, 3] [], rules [3, 3, 3, 3] [], rules [0, 0, 0, 0] [3], rules [0, 1, 1, 1] [3], rules [0, 0, 0, 0] [3]⟩
def thrP (first : Int) : Proto := ⟨rules [1, 1, 1, 1] [], rules [first, 1, 1, 1] [0, 1, 2, 3], rules [0, 0, 0, 0] [], rules [0, 1, 1, 1] [], rules [0, 0, 0, 0] []⟩

set_option maxHeartbeats 4000000 in
set_option maxRecDepth 100000 in
theorem MsiSpec (x : Bool) (w : World) : Calls Try.prog 101 #[.bool x] w fun e w' => ∃ v, e = .returned v ∧ ProtoR w' (w.heap.size + 1) (msiP (if x then 2 else 1)) v ∧ Below w.heap.size w w' := by
  cases x with
  | true =>
    go_enter Try.func101, Try.ntmps101
    go_wp2_with fail
    refine (rulesLit (w.heap.size + 1) _ _ _ _ _ (by simp) (Nat.le_refl _) [2, 1, 2, 3] [] rfl (by simp) rfl).mono ?_
    rintro e w1 ⟨A0, a0, rfl, hR0, hb0⟩
    have HR0 := Lib.hid hR0
    have HB0 := Lib.hid hb0
    have HZ0 : Hid (w.heap.size + 1 ≤ w1.heap.size) := Lib.hid (by have := hb0.size; simpa using this)
    clear hR0 hb0
    go_wp2_with fail
    refine (rulesLit (w.heap.size + 1) _ _ _ _ _ rfl (by have := HZ0.out; omega) [3, 3, 3, 3] [] rfl (by simp) rfl).mono ?_
    rintro e w2 ⟨A1, a1, rfl, hR1, hb1⟩
    have HR1 := Lib.hid hR1
    have HB1 := Lib.hid hb1
    have HZ1 : Hid (w.heap.size + 1 ≤ w2.heap.size) := Lib.hid (by have := hb1.size; have := HZ0.out; omega)
    clear hR1 hb1
    go_wp2_with fail
    refine (rulesLit (w.heap.size + 1) _ _ _ _ _ rfl (by have := HZ1.out; omega) [0, 0, 0, 0] [3] rfl (by simp) rfl).mono ?_
    rintro e w3 ⟨A2, a2, rfl, hR2, hb2⟩
    have HR2 := Lib.hid hR2
    have HB2 := Lib.hid hb2
    have HZ2 : Hid (w.heap.size + 1 ≤ w3.heap.size) := Lib.hid (by have := hb2.size; have := HZ1.out; omega)
    clear hR2 hb2
    go_wp2_with fail
    refine (rulesLit (w.heap.size + 1) _ _ _ _ _ rfl (by have := HZ2.out; omega) [0, 1, 1, 1] [3] rfl (by simp) rfl).mono ?_
    rintro e w4 ⟨A3, a3, rfl, hR3, hb3⟩
    have HR3 := Lib.hid hR3
    have HB3 := Lib.hid hb3
    have HZ3 : Hid (w.heap.size + 1 ≤ w4.heap.size) := Lib.hid (by have := hb3.size; have := HZ2.out; omega)
    clear hR3 hb3
    go_wp2_with fail
    refine (rulesLit (w.heap.size + 1) _ _ _ _ _ rfl (by have := HZ3.out; omega) [0, 0, 0, 0] [3] rfl (by simp) rfl).mono ?_
    rintro e w5 ⟨A4, a4, rfl, hR4, hb4⟩
    have HR4 := Lib.hid hR4
    have HB4 := Lib.hid hb4
    have HZ4 : Hid (w.heap.size + 1 ≤ w5.heap.size) := Lib.hid (by have := hb4.size; have := HZ3.out; omega)
    clear hR4 hb4
    have hb : Below (w.heap.size + 1) (w.alloc (.cells #[.slice none 0 0, .slice none 0 0, .slice none 0 0, .slice none 0 0, .slice none 0 0] 50)) w5 := ((((HB0.out.mono (by simp)).trans (HB1.out.mono HZ0.out)).trans (HB2.out.mono HZ1.out)).trans (HB3.out.mono HZ2.out)).trans (HB4.out.mono HZ3.out)
    have hr := (hb.block w.heap.size (by omega)).trans (heap_alloc_new w _)
    have q0 := cell_blk hr 0 _ rfl
    have q0f := Lib.frozen_of_heap hr 0
    have q1 := cell_blk hr 1 _ rfl
    have q1f := Lib.frozen_of_heap hr 1
    have q2 := cell_blk hr 2 _ rfl
    have q2f := Lib.frozen_of_heap hr 2
    have q3 := cell_blk hr 3 _ rfl
    have q3f := Lib.frozen_of_heap hr 3
    have q4 := cell_blk hr 4 _ rfl
    have q4f := Lib.frozen_of_heap hr 4
    have HBB := Lib.hid hb
    clear hr hb
    go_wp2
    have hm : ∀ k, w.heap.size + 1 ≤ k → (((((w5.setCell ⟨w.heap.size, 0, none⟩ (.slice A0 4 a0)).setCell ⟨w.heap.size, 1, none⟩ (.slice A1 4 a1)).setCell ⟨w.heap.size, 2, none⟩ (.slice A2 4 a2)).setCell ⟨w.heap.size, 3, none⟩ (.slice A3 4 a3)).setCell ⟨w.heap.size, 4, none⟩ (.slice A4 4 a4)).heap[k]? = w5.heap[k]? := fun k hk => by rw [Below.heap_setCell _ _ _ _ (by simp; omega), Below.heap_setCell _ _ _ _ (by simp; omega), Below.heap_setCell _ _ _ _ (by simp; omega), Below.heap_setCell _ _ _ _ (by simp; omega), Below.heap_setCell _ _ _ _ (by simp; omega)]
    refine bodyPost_ret (v := .agg #[.slice A0 4 a0, .slice A1 4 a1, .slice A2 4 a2, .slice A3 4 a3, .slice A4 4 a4]) (by simp [results, Try.results101, go_sem, q0, q1, q2, q3, q4]) rfl ⟨_, rfl, protoR_mk (Kd.R_move (Kd.R_below HR0.out (((HB1.out.trans (HB2.out.mono HB1.out.size)).trans (HB3.out.mono (Nat.le_trans HB1.out.size HB2.out.size))).trans (HB4.out.mono (Nat.le_trans HB1.out.size (Nat.le_trans HB2.out.size HB3.out.size))))) hm) (Kd.R_move (Kd.R_below HR1.out ((HB2.out.trans (HB3.out.mono HB2.out.size)).trans (HB4.out.mono (Nat.le_trans HB2.out.size HB3.out.size)))) hm) (Kd.R_move (Kd.R_below HR2.out (HB3.out.trans (HB4.out.mono HB3.out.size))) hm) (Kd.R_move (Kd.R_below HR3.out HB4.out) hm) (Kd.R_move HR4.out hm), ?_⟩
    exact ((((((((Below.refl _ w).alloc (Nat.le_refl _) _).trans (HBB.out.mono (by omega))).setCell (p := ⟨w.heap.size, 0, none⟩) (by simp) _).setCell (p := ⟨w.heap.size, 1, none⟩) (by simp) _).setCell (p := ⟨w.heap.size, 2, none⟩) (by simp) _).setCell (p := ⟨w.heap.size, 3, none⟩) (by simp) _).setCell (p := ⟨w.heap.size, 4, none⟩) (by simp) _)
  | false =>
    go_enter Try.func101, Try.ntmps101
    go_wp2_with fail
    refine (rulesLit (w.heap.size + 1) _ _ _ _ _ (by simp) (Nat.le_refl _) [1, 1, 2, 3] [] rfl (by simp) rfl).mono ?_
    rintro e w1 ⟨A0, a0, rfl, hR0, hb0⟩
    have HR0 := Lib.hid hR0
    have HB0 := Lib.hid hb0
    have HZ0 : Hid (w.heap.size + 1 ≤ w1.heap.size) := Lib.hid (by have := hb0.size; simpa using this)
    clear hR0 hb0
    go_wp2_with fail
    refine (rulesLit (w.heap.size + 1) _ _ _ _ _ rfl (by have := HZ0.out; omega) [3, 3, 3, 3] [] rfl (by simp) rfl).mono ?_
    rintro e w2 ⟨A1, a1, rfl, hR1, hb1⟩
    have HR1 := Lib.hid hR1
    have HB1 := Lib.hid hb1
    have HZ1 : Hid (w.heap.size + 1 ≤ w2.heap.size) := Lib.hid (by have := hb1.size; have := HZ0.out; omega)
    clear hR1 hb1
    go_wp2_with fail
    refine (rulesLit (w.heap.size + 1) _ _ _ _ _ rfl (by have := HZ1.out; omega) [0, 0, 0, 0] [3] rfl (by simp) rfl).mono ?_
    rintro e w3 ⟨A2, a2, rfl, hR2, hb2⟩
    have HR2 := Lib.hid hR2
    have HB2 := Lib.hid hb2
    have HZ2 : Hid (w.heap.size + 1 ≤ w3.heap.size) := Lib.hid (by have := hb2.size; have := HZ1.out; omega)
    clear hR2 hb2
    go_wp2_with fail
    refine (rulesLit (w.heap.size + 1) _ _ _ _ _ rfl (by have := HZ2.out; omega) [0, 1, 1, 1] [3] rfl (by simp) rfl).mono ?_
    rintro e w4 ⟨A3, a3, rfl, hR3, hb3⟩
    have HR3 := Lib.hid hR3
    have HB3 := Lib.hid hb3
    have HZ3 : Hid (w.heap.size + 1 ≤ w4.heap.size) := Lib.hid (by have := hb3.size; have := HZ2.out; omega)
    clear hR3 hb3
    go_wp2_with fail
    refine (rulesLit (w.heap.size + 1) _ _ _ _ _ rfl (by have := HZ3.out; omega) [0, 0, 0, 0] [3] rfl (by simp) rfl).mono ?_
    rintro e w5 ⟨A4, a4, rfl, hR4, hb4⟩
    have HR4 := Lib.hid hR4
    have HB4 := Lib.hid hb4
    have HZ4 : Hid (w.heap.size + 1 ≤ w5.heap.size) := Lib.hid (by have := hb4.size; have := HZ3.out; omega)
    clear hR4 hb4
    have hb : Below (w.heap.size + 1) (w.alloc (.cells #[.slice none 0 0, .slice none 0 0, .slice none 0 0, .slice none 0 0, .slice none 0 0] 50)) w5 := ((((HB0.out.mono (by simp)).trans (HB1.out.mono HZ0.out)).trans (HB2.out.mono HZ1.out)).trans (HB3.out.mono HZ2.out)).trans (HB4.out.mono HZ3.out)
    have hr := (hb.block w.heap.size (by omega)).trans (heap_alloc_new w _)
    have q0 := cell_blk hr 0 _ rfl
    have q0f := Lib.frozen_of_heap hr 0
    have q1 := cell_blk hr 1 _ rfl
    have q1f := Lib.frozen_of_heap hr 1
    have q2 := cell_blk hr 2 _ rfl
    have q2f := Lib.frozen_of_heap hr 2
    have q3 := cell_blk hr 3 _ rfl
    have q3f := Lib.frozen_of_heap hr 3
    have q4 := cell_blk hr 4 _ rfl
    have q4f := Lib.frozen_of_heap hr 4
    have HBB := Lib.hid hb
    clear hr hb
    go_wp2
    have hm : ∀ k, w.heap.size + 1 ≤ k → (((((w5.setCell ⟨w.heap.size, 0, none⟩ (.slice A0 4 a0)).setCell ⟨w.heap.size, 1, none⟩ (.slice A1 4 a1)).setCell ⟨w.heap.size, 2, none⟩ (.slice A2 4 a2)).setCell ⟨w.heap.size, 3, none⟩ (.slice A3 4 a3)).setCell ⟨w.heap.size, 4, none⟩ (.slice A4 4 a4)).heap[k]? = w5.heap[k]? := fun k hk => by rw [Below.heap_setCell _ _ _ _ (by simp; omega), Below.heap_setCell _ _ _ _ (by simp; omega), Below.heap_setCell _ _ _ _ (by simp; omega), Below.heap_setCell _ _ _ _ (by simp; omega), Below.heap_setCell _ _ _ _ (by simp; omega)]
    refine bodyPost_ret (v := .agg #[.slice A0 4 a0, .slice A1 4 a1, .slice A2 4 a2, .slice A3 4 a3, .slice A4 4 a4]) (by simp [results, Try.results101, go_sem, q0, q1, q2, q3, q4]) rfl ⟨_, rfl, protoR_mk (Kd.R_move (Kd.R_below HR0.out (((HB1.out.trans (HB2.out.mono HB1.out.size)).trans (HB3.out.mono (Nat.le_trans HB1.out.size HB2.out.size))).trans (HB4.out.mono (Nat.le_trans HB1.out.size (Nat.le_trans HB2.out.size HB3.out.size))))) hm) (Kd.R_move (Kd.R_below HR1.out ((HB2.out.trans (HB3.out.mono HB2.out.size)).trans (HB4.out.mono (Nat.le_trans HB2.out.size HB3.out.size)))) hm) (Kd.R_move (Kd.R_below HR2.out (HB3.out.trans (HB4.out.mono HB3.out.size))) hm) (Kd.R_move (Kd.R_below HR3.out HB4.out) hm) (Kd.R_move HR4.out hm), ?_⟩
    exact ((((((((Below.refl _ w).alloc (Nat.le_refl _) _).trans (HBB.out.mono (by omega))).setCell (p := ⟨w.heap.size, 0, none⟩) (by simp) _).setCell (p := ⟨w.heap.size, 1, none⟩) (by simp) _).setCell (p := ⟨w.heap.size, 2, none⟩) (by simp) _).setCell (p := ⟨w.heap.size, 3, none⟩) (by simp) _).setCell (p := ⟨w.heap.size, 4, none⟩) (by simp) _)
set_option maxHeartbeats 4000000 in
set_option maxRecDepth 100000 in
theorem ThroughSpec (x : Bool) (w : World) : Calls Try.prog 102 #[.bool x] w fun e w' => ∃ v, e = .returned v ∧ ProtoR w' (w.heap.size + 1) (thrP (if x then 1 else 0)) v ∧ Below w.heap.size w w' := by
  cases x with
  | true =>
    go_enter Try.func102, Try.ntmps102
    go_wp2_with fail
    refine (rulesLit (w.heap.size + 1) _ _ _ _ _ (by simp) (Nat.le_refl _) [1, 1, 1, 1] [] rfl (by simp) rfl).mono ?_
    rintro e w1 ⟨A0, a0, rfl, hR0, hb0⟩
    have HR0 := Lib.hid hR0
    have HB0 := Lib.hid hb0
    have HZ0 : Hid (w.heap.size + 1 ≤ w1.heap.size) := Lib.hid (by have := hb0.size; simpa using this)
    clear hR0 hb0
    go_wp2_with fail
    refine (rulesLit (w.heap.size + 1) _ _ _ _ _ rfl (by have := HZ0.out; omega) [1, 1, 1, 1] [0, 1, 2, 3] rfl (by simp) rfl).mono ?_
    rintro e w2 ⟨A1, a1, rfl, hR1, hb1⟩
    have HR1 := Lib.hid hR1
    have HB1 := Lib.hid hb1
    have HZ1 : Hid (w.heap.size + 1 ≤ w2.heap.size) := Lib.hid (by have := hb1.size; have := HZ0.out; omega)
    clear hR1 hb1
    go_wp2_with fail
    refine (rulesLit (w.heap.size + 1) _ _ _ _ _ rfl (by have := HZ1.out; omega) [0, 0, 0, 0] [] rfl (by simp) rfl).mono ?_
    rintro e w3 ⟨A2, a2, rfl, hR2, hb2⟩
    have HR2 := Lib.hid hR2
    have HB2 := Lib.hid hb2
    have HZ2 : Hid (w.heap.size + 1 ≤ w3.heap.size) := Lib.hid (by have := hb2.size; have := HZ1.out; omega)
    clear hR2 hb2
    go_wp2_with fail
    refine (rulesLit (w.heap.size + 1) _ _ _ _ _ rfl (by have := HZ2.out; omega) [0, 1, 1, 1] [] rfl (by simp) rfl).mono ?_
    rintro e w4 ⟨A3, a3, rfl, hR3, hb3⟩
    have HR3 := Lib.hid hR3
    have HB3 := Lib.hid hb3
    have HZ3 : Hid (w.heap.size + 1 ≤ w4.heap.size) := Lib.hid (by have := hb3.size; have := HZ2.out; omega)
    clear hR3 hb3
    go_wp2_with fail
    refine (rulesLit (w.heap.size + 1) _ _ _ _ _ rfl (by have := HZ3.out; omega) [0, 0, 0, 0] [] rfl (by simp) rfl).mono ?_
    rintro e w5 ⟨A4, a4, rfl, hR4, hb4⟩
    have HR4 := Lib.hid hR4
    have HB4 := Lib.hid hb4
    have HZ4 : Hid (w.heap.size + 1 ≤ w5.heap.size) := Lib.hid (by have := hb4.size; have := HZ3.out; omega)
    clear hR4 hb4
    have hb : Below (w.heap.size + 1) (w.alloc (.cells #[.slice none 0 0, .slice none 0 0, .slice none 0 0, .slice none 0 0, .slice none 0 0] 50)) w5 := ((((HB0.out.mono (by simp)).trans (HB1.out.mono HZ0.out)).trans (HB2.out.mono HZ1.out)).trans (HB3.out.mono HZ2.out)).trans (HB4.out.mono HZ3.out)
    have hr := (hb.block w.heap.size (by omega)).trans (heap_alloc_new w _)
    have q0 := cell_blk hr 0 _ rfl
    have q0f := Lib.frozen_of_heap hr 0
    have q1 := cell_blk hr 1 _ rfl
    have q1f := Lib.frozen_of_heap hr 1
    have q2 := cell_blk hr 2 _ rfl
    have q2f := Lib.frozen_of_heap hr 2
    have q3 := cell_blk hr 3 _ rfl
    have q3f := Lib.frozen_of_heap hr 3
    have q4 := cell_blk hr 4 _ rfl
    have q4f := Lib.frozen_of_heap hr 4
    have HBB := Lib.hid hb
    clear hr hb
    go_wp2
    have hm : ∀ k, w.heap.size + 1 ≤ k → (((((w5.setCell ⟨w.heap.size, 0, none⟩ (.slice A0 4 a0)).setCell ⟨w.heap.size, 1, none⟩ (.slice A1 4 a1)).setCell ⟨w.heap.size, 2, none⟩ (.slice A2 4 a2)).setCell ⟨w.heap.size, 3, none⟩ (.slice A3 4 a3)).setCell ⟨w.heap.size, 4, none⟩ (.slice A4 4 a4)).heap[k]? = w5.heap[k]? := fun k hk => by rw [Below.heap_setCell _ _ _ _ (by simp; omega), Below.heap_setCell _ _ _ _ (by simp; omega), Below.heap_setCell _ _ _ _ (by simp; omega), Below.heap_setCell _ _ _ _ (by simp; omega), Below.heap_setCell _ _ _ _ (by simp; omega)]
    refine bodyPost_ret (v := .agg #[.slice A0 4 a0, .slice A1 4 a1, .slice A2 4 a2, .slice A3 4 a3, .slice A4 4 a4]) (by simp [results, Try.results102, go_sem, q0, q1, q2, q3, q4]) rfl ⟨_, rfl, protoR_mk (Kd.R_move (Kd.R_below HR0.out (((HB1.out.trans (HB2.out.mono HB1.out.size)).trans (HB3.out.mono (Nat.le_trans HB1.out.size HB2.out.size))).trans (HB4.out.mono (Nat.le_trans HB1.out.size (Nat.le_trans HB2.out.size HB3.out.size))))) hm) (Kd.R_move (Kd.R_below HR1.out ((HB2.out.trans (HB3.out.mono HB2.out.size)).trans (HB4.out.mono (Nat.le_trans HB2.out.size HB3.out.size)))) hm) (Kd.R_move (Kd.R_below HR2.out (HB3.out.trans (HB4.out.mono HB3.out.size))) hm) (Kd.R_move (Kd.R_below HR3.out HB4.out) hm) (Kd.R_move HR4.out hm), ?_⟩
    exact ((((((((Below.refl _ w).alloc (Nat.le_refl _) _).trans (HBB.out.mono (by omega))).setCell (p := ⟨w.heap.size, 0, none⟩) (by simp) _).setCell (p := ⟨w.heap.size, 1, none⟩) (by simp) _).setCell (p := ⟨w.heap.size, 2, none⟩) (by simp) _).setCell (p := ⟨w.heap.size, 3, none⟩) (by simp) _).setCell (p := ⟨w.heap.size, 4, none⟩) (by simp) _)
  | false =>
    go_enter Try.func102, Try.ntmps102
    go_wp2_with fail
    refine (rulesLit (w.heap.size + 1) _ _ _ _ _ (by simp) (Nat.le_refl _) [1, 1, 1, 1] [] rfl (by simp) rfl).mono ?_
    rintro e w1 ⟨A0, a0, rfl, hR0, hb0⟩
    have HR0 := Lib.hid hR0
    have HB0 := Lib.hid hb0
    have HZ0 : Hid (w.heap.size + 1 ≤ w1.heap.size) := Lib.hid (by have := hb0.size; simpa using this)
    clear hR0 hb0
    go_wp2_with fail
    refine (rulesLit (w.heap.size + 1) _ _ _ _ _ rfl (by have := HZ0.out; omega) [0, 1, 1, 1] [0, 1, 2, 3] rfl (by simp) rfl).mono ?_
    rintro e w2 ⟨A1, a1, rfl, hR1, hb1⟩
    have HR1 := Lib.hid hR1
    have HB1 := Lib.hid hb1
    have HZ1 : Hid (w.heap.size + 1 ≤ w2.heap.size) := Lib.hid (by have := hb1.size; have := HZ0.out; omega)
    clear hR1 hb1
    go_wp2_with fail
    refine (rulesLit (w.heap.size + 1) _ _ _ _ _ rfl (by have := HZ1.out; omega) [0, 0, 0, 0] [] rfl (by simp) rfl).mono ?_
    rintro e w3 ⟨A2, a2, rfl, hR2, hb2⟩
    have HR2 := Lib.hid hR2
    have HB2 := Lib.hid hb2
    have HZ2 : Hid (w.heap.size + 1 ≤ w3.heap.size) := Lib.hid (by have := hb2.size; have := HZ1.out; omega)
    clear hR2 hb2
    go_wp2_with fail
    refine (rulesLit (w.heap.size + 1) _ _ _ _ _ rfl (by have := HZ2.out; omega) [0, 1, 1, 1] [] rfl (by simp) rfl).mono ?_
    rintro e w4 ⟨A3, a3, rfl, hR3, hb3⟩
    have HR3 := Lib.hid hR3
    have HB3 := Lib.hid hb3
    have HZ3 : Hid (w.heap.size + 1 ≤ w4.heap.size) := Lib.hid (by have := hb3.size; have := HZ2.out; omega)
    clear hR3 hb3
    go_wp2_with fail
    refine (rulesLit (w.heap.size + 1) _ _ _ _ _ rfl (by have := HZ3.out; omega) [0, 0, 0, 0] [] rfl (by simp) rfl).mono ?_
    rintro e w5 ⟨A4, a4, rfl, hR4, hb4⟩
    have HR4 := Lib.hid hR4
    have HB4 := Lib.hid hb4
    have HZ4 : Hid (w.heap.size + 1 ≤ w5.heap.size) := Lib.hid (by have := hb4.size; have := HZ3.out; omega)
    clear hR4 hb4
    have hb : Below (w.heap.size + 1) (w.alloc (.cells #[.slice none 0 0, .slice none 0 0, .slice none 0 0, .slice none 0 0, .slice none 0 0] 50)) w5 := ((((HB0.out.mono (by simp)).trans (HB1.out.mono HZ0.out)).trans (HB2.out.mono HZ1.out)).trans (HB3.out.mono HZ2.out)).trans (HB4.out.mono HZ3.out)
    have hr := (hb.block w.heap.size (by omega)).trans (heap_alloc_new w _)
    have q0 := cell_blk hr 0 _ rfl
    have q0f := Lib.frozen_of_heap hr 0
    have q1 := cell_blk hr 1 _ rfl
    have q1f := Lib.frozen_of_heap hr 1
    have q2 := cell_blk hr 2 _ rfl
    have q2f := Lib.frozen_of_heap hr 2
    have q3 := cell_blk hr 3 _ rfl
    have q3f := Lib.frozen_of_heap hr 3
    have q4 := cell_blk hr 4 _ rfl
    have q4f := Lib.frozen_of_heap hr 4
    have HBB := Lib.hid hb
    clear hr hb
    go_wp2
    have hm : ∀ k, w.heap.size + 1 ≤ k → (((((w5.setCell ⟨w.heap.size, 0, none⟩ (.slice A0 4 a0)).setCell ⟨w.heap.size, 1, none⟩ (.slice A1 4 a1)).setCell ⟨w.heap.size, 2, none⟩ (.slice A2 4 a2)).setCell ⟨w.heap.size, 3, none⟩ (.slice A3 4 a3)).setCell ⟨w.heap.size, 4, none⟩ (.slice A4 4 a4)).heap[k]? = w5.heap[k]? := fun k hk => by rw [Below.heap_setCell _ _ _ _ (by simp; omega), Below.heap_setCell _ _ _ _ (by simp; omega), Below.heap_setCell _ _ _ _ (by simp; omega), Below.heap_setCell _ _ _ _ (by simp; omega), Below.heap_setCell _ _ _ _ (by simp; omega)]
    refine bodyPost_ret (v := .agg #[.slice A0 4 a0, .slice A1 4 a1, .slice A2 4 a2, .slice A3 4 a3, .slice A4 4 a4]) (by simp [results, Try.results102, go_sem, q0, q1, q2, q3, q4]) rfl ⟨_, rfl, protoR_mk (Kd.R_move (Kd.R_below HR0.out (((HB1.out.trans (HB2.out.mono HB1.out.size)).trans (HB3.out.mono (Nat.le_trans HB1.out.size HB2.out.size))).trans (HB4.out.mono (Nat.le_trans HB1.out.size (Nat.le_trans HB2.out.size HB3.out.size))))) hm) (Kd.R_move (Kd.R_below HR1.out ((HB2.out.trans (HB3.out.mono HB2.out.size)).trans (HB4.out.mono (Nat.le_trans HB2.out.size HB3.out.size)))) hm) (Kd.R_move (Kd.R_below HR2.out (HB3.out.trans (HB4.out.mono HB3.out.size))) hm) (Kd.R_move (Kd.R_below HR3.out HB4.out) hm) (Kd.R_move HR4.out hm), ?_⟩
    exact ((((((((Below.refl _ w).alloc (Nat.le_refl _) _).trans (HBB.out.mono (by omega))).setCell (p := ⟨w.heap.size, 0, none⟩) (by simp) _).setCell (p := ⟨w.heap.size, 1, none⟩) (by simp) _).setCell (p := ⟨w.heap.size, 2, none⟩) (by simp) _).setCell (p := ⟨w.heap.size, 3, none⟩) (by simp) _).setCell (p := ⟨w.heap.size, 4, none⟩) (by simp) _)
theorem valid_msi : validP (msiP 1) = true ∧ validP (msiP 2) = true := by decide
theorem valid_thr : validP (thrP 0) = true ∧ validP (thrP 1) = true := by decide
end Go.Proofs.Ytfeabjiccnnpcaa.Ca
