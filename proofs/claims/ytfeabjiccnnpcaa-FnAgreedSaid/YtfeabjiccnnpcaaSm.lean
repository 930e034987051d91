import Derived.Test.YtfeabjiccnnpcaaSl
set_option linter.unusedVariables false
set_option linter.unusedSimpArgs false
namespace Go.Proofs.Ytfeabjiccnnpcaa.Ca
open Go.RowKit Go.Proofs.YtfeabjiccnnpcaaW.PrintWords Go.Proofs.YtfeabjiccnnpcaaW.PrintLast Go.Proofs.Ytfeabjiccnnpcaa.Ba Go.Proofs.Ytfeabjiccnnpcaa.Sa

/-- R8Protocol's state: its result box, its source -/
structure St (w : World) (A : Option Addr) (n c : Nat) (bs : List Int) (k : Int) (w' : World) : Prop where
  below : Below w.heap.size w w'
  box : w'.heap[w.heap.size]? = some (.cells #[.slice none 0 0, .slice none 0 0, .slice none 0 0, .slice none 0 0, .slice none 0 0] 50 (0, 0))
  src : Src w' (w.heap.size + 1) A n c k
  room : w.heap.size + 1 < w'.heap.size
  bytes : Bytes w' A n bs
theorem St.chg {w w1 w2 : World} {A : Option Addr} {n c : Nat} {bs : List Int} {k k' : Int} (h : St w A n c bs k w1) (hs : Src w2 (w.heap.size + 1) A n c k') (hc : Chg (fun q => q = w.heap.size + 1) w1 w2) (hB : Bytes w A n bs) : St w A n c bs k' w2 := by
  have hr := h.room
  have hb : Below w.heap.size w w2 := h.below.trans (hc.below (by omega) (fun q hq => by omega))
  exact ⟨hb, (hc.block _ (by omega) (by omega)).trans h.box, hs, Nat.lt_of_lt_of_le hr hc.size, hB.below hb⟩
theorem St.after {w w1 w2 : World} {A : Option Addr} {n c : Nat} {bs : List Int} {k : Int} (h : St w A n c bs k w1) (hb : Below w1.heap.size w1 w2) : St w A n c bs k w2 := by
  have hr := h.room
  exact ⟨h.below.trans (hb.mono (by omega)), (hb.block _ (by omega)).trans h.box, h.src.below hb, Nat.lt_of_lt_of_le hr hb.size, h.bytes.below hb⟩
theorem St.set {w w1 : World} {A : Option Addr} {n c : Nat} {bs : List Int} {k : Int} (h : St w A n c bs k w1) (p : Addr) (hp : w.heap.size + 1 < p.block) (v : Value) (hB : Bytes w A n bs) : St w A n c bs k (w1.setCell p v) := by
  have hb : Below w.heap.size w (w1.setCell p v) := h.below.setCell (by omega) _
  exact ⟨hb, by rw [Below.heap_setCell _ _ _ _ (by omega)]; exact h.box, h.src.move (Below.heap_setCell _ _ _ _ (by omega)), by simpa using h.room, hB.below hb⟩
/-- a valid protocol's box; its rows lie in blocks that are ok -/
structure PBox (w : World) (ok : Nat → Prop) (g : Nat) (p : Proto) (AA : Nat → Option Addr) (cc : Nat → Nat) : Prop where
  blk : w.heap[g]? = some (.cells #[.slice (AA 0) 4 (cc 0), .slice (AA 1) 4 (cc 1), .slice (AA 2) 4 (cc 2), .slice (AA 3) 4 (cc 3), .slice (AA 4) 4 (cc 4)] 50 (0, 0))
  tabs : ∀ k, k < 5 → Kd.R kRule 145 w 0 ok (.slice (AA k) 4 (cc k)) (p.tab k)
  valid : validP p = true
section
variable {w w1 : World} {ok : Nat → Prop} {g : Nat} {p : Proto} {AA : Nat → Option Addr} {cc : Nat → Nat}
theorem PBox.cell (h : PBox w ok g p AA cc) (k : Nat) (hk : k < 5) : w.cell? ⟨g, k, none⟩ = some (.slice (AA k) 4 (cc k)) := by
  match k, hk with
  | 0, _ => exact cell_blk h.blk 0 _ rfl
  | 1, _ => exact cell_blk h.blk 1 _ rfl
  | 2, _ => exact cell_blk h.blk 2 _ rfl
  | 3, _ => exact cell_blk h.blk 3 _ rfl
  | 4, _ => exact cell_blk h.blk 4 _ rfl
theorem PBox.after (h : PBox w ok g p AA cc) (hb : Below w.heap.size w w1) : PBox w1 ok g p AA cc :=
  ⟨(hb.block _ (heap_lt h.blk)).trans h.blk, fun k hk => Kd.R_below (h.tabs k hk) hb, h.valid⟩
theorem PBox.chg {s : Nat} (h : PBox w ok g p AA cc) (hc : Chg (fun q => q = s) w w1) (hs : ∀ q, ok q → q ≠ s) (hg : g ≠ s) : PBox w1 ok g p AA cc :=
  ⟨(hc.block _ (heap_lt h.blk) hg).trans h.blk, fun k hk => Kd.R_step (h.tabs k hk) (fun q hq hlt => hc.block q hlt (hs q hq)), h.valid⟩
theorem PBox.set {q : Addr} (h : PBox w ok g p AA cc) (hq : ∀ k, ok k → k ≠ q.block) (hg : g ≠ q.block) (v : Value) : PBox (w.setCell q v) ok g p AA cc :=
  ⟨(Below.heap_setCell _ _ _ _ hg).trans h.blk, fun k hk => Kd.R_far (h.tabs k hk) (fun r hr => hq r hr) v, h.valid⟩
theorem PBox.avoid {r : Nat} (h : PBox w ok g p AA cc) (hr : w.heap.size ≤ r) : PBox w (fun q => ok q ∧ q ≠ r) g p AA cc :=
  ⟨h.blk, fun k hk => Kd.R_mono (Kd.R_bound (h.tabs k hk)) (fun q hq => ⟨hq.1, by have := hq.2.2.1; omega⟩), h.valid⟩
theorem PBox.protoV (h : PBox w ok g p AA cc) : ProtoV w p (.agg #[.slice (AA 0) 4 (cc 0), .slice (AA 1) 4 (cc 1), .slice (AA 2) 4 (cc 2), .slice (AA 3) 4 (cc 3), .slice (AA 4) 4 (cc 4)]) := proto_mk5 (h.tabs 0 (by omega)) (h.tabs 1 (by omega)) (h.tabs 2 (by omega)) (h.tabs 3 (by omega)) (h.tabs 4 (by omega))
theorem PBox.made (hr : ∀ k, k < 5 → Kd.R kRule 145 w 0 ok (.slice (AA k) 4 (cc k)) (p.tab k)) (hv : validP p = true) (hg : w.heap.size = g) : PBox (w.alloc (.cells #[.slice (AA 0) 4 (cc 0), .slice (AA 1) 4 (cc 1), .slice (AA 2) 4 (cc 2), .slice (AA 3) 4 (cc 3), .slice (AA 4) 4 (cc 4)] 50)) ok g p AA cc :=
  ⟨by rw [← hg]; exact heap_alloc_new w _, fun k hk => Kd.R_below (hr k hk) ((Below.refl _ _).alloc (Nat.le_refl _) _), hv⟩
end
theorem Src.mono {w : World} {g : Nat} {A : Option Addr} {n c : Nat} {k k' : Int} (h : Src w g A n c k) (hk : k ≤ k') : Src w g A n c k' := by
  obtain ⟨i, s, h1, h2, h3⟩ := h
  exact ⟨i, s, h1, by omega, h3⟩
theorem St.mono {w w1 : World} {A : Option Addr} {n c : Nat} {bs : List Int} {k k' : Int} (h : St w A n c bs k w1) (hk : k ≤ k') : St w A n c bs k' w1 := ⟨h.below, h.box, Src.mono h.src hk, h.room, h.bytes⟩
theorem C_rule_set {w : World} {A : Option Addr} {n : Nat} {xs : List Rule} (h : Kd.C kRule w A n xs) {q : Addr} {A0 : Option Addr} {n0 c0 : Nat} (hq : w.cell? q = some (.slice A0 n0 c0)) (u : Value) : Kd.C kRule (w.setCell q u) A n xs := by
  refine ⟨h.1, h.2.1, fun hn => ?_⟩
  obtain ⟨ad, e, hc⟩ := h.2.2 hn
  refine ⟨ad, e, fun j x hj => ?_⟩
  obtain ⟨c, hl, hK, hcell⟩ := hc j x hj
  refine ⟨c, hl, by rw [kRule_open hK]; exact kRule_mk _ x, fun i v hv => ?_⟩
  have h1 := hcell i v hv
  rw [World.cell?_setCell_other]
  · exact h1
  · rintro rfl
    rw [hq] at h1
    injection h1 with h1
    rw [kRule_open hK] at hv
    match i, hv with
    | 0, hv => simp at hv; rw [← hv] at h1; cases h1
    | 1, hv => simp at hv; rw [← hv] at h1; cases h1
    | 2, hv => simp at hv; rw [← hv] at h1; cases h1
theorem C_rule_set5 {w : World} {A : Option Addr} {n : Nat} {xs : List Rule} (h : Kd.C kRule w A n xs) {b : Nat} {A0 A1 A2 A3 A4 : Option Addr} {n0 n1 n2 n3 n4 c0 c1 c2 c3 c4 : Nat} {t : TypeId} {fr : Nat × Nat} (hb : w.heap[b]? = some (.cells #[.slice A0 n0 c0, .slice A1 n1 c1, .slice A2 n2 c2, .slice A3 n3 c3, .slice A4 n4 c4] t fr)) (y0 y1 y2 y3 y4 : Value) :
    Kd.C kRule (((((w.setCell ⟨b, 0, none⟩ y0).setCell ⟨b, 1, none⟩ y1).setCell ⟨b, 2, none⟩ y2).setCell ⟨b, 3, none⟩ y3).setCell ⟨b, 4, none⟩ y4) A n xs := by
  have h0 := Joins.block_setCell (i := 0) hb y0
  have h1 := Joins.block_setCell (i := 1) h0 y1
  have h2 := Joins.block_setCell (i := 2) h1 y2
  have h3 := Joins.block_setCell (i := 3) h2 y3
  exact C_rule_set (C_rule_set (C_rule_set (C_rule_set (C_rule_set h (cell_blk hb 0 _ rfl) y0) (cell_blk h0 1 _ rfl) y1) (cell_blk h1 2 _ rfl) y2) (cell_blk h2 3 _ rfl) y3) (cell_blk h3 4 _ rfl) y4
theorem ProtoV.set5 {w : World} {p : Proto} {v : Value} (h : ProtoV w p v) {b : Nat} {A0 A1 A2 A3 A4 : Option Addr} {n0 n1 n2 n3 n4 c0 c1 c2 c3 c4 : Nat} {t : TypeId} {fr : Nat × Nat} (hb : w.heap[b]? = some (.cells #[.slice A0 n0 c0, .slice A1 n1 c1, .slice A2 n2 c2, .slice A3 n3 c3, .slice A4 n4 c4] t fr)) (y0 y1 y2 y3 y4 : Value) :
    ProtoV (((((w.setCell ⟨b, 0, none⟩ y0).setCell ⟨b, 1, none⟩ y1).setCell ⟨b, 2, none⟩ y2).setCell ⟨b, 3, none⟩ y3).setCell ⟨b, 4, none⟩ y4) p v := by
  obtain ⟨B0, d0, B1, d1, B2, d2, B3, d3, B4, d4, rfl, h0, k0, h1, k1, h2, k2, h3, k3, h4, k4⟩ := h
  exact ⟨B0, d0, B1, d1, B2, d2, B3, d3, B4, d4, rfl, h0, C_rule_set5 k0 hb _ _ _ _ _, h1, C_rule_set5 k1 hb _ _ _ _ _, h2, C_rule_set5 k2 hb _ _ _ _ _, h3, C_rule_set5 k3 hb _ _ _ _ _, h4, C_rule_set5 k4 hb _ _ _ _ _⟩
theorem box3 {w : World} {b : Nat} {x0 x1 x2 : Value} {t : TypeId} {fr : Nat × Nat} (h : w.heap[b]? = some (.cells #[x0, x1, x2] t fr)) : w.cell? ⟨b, 0, none⟩ = some x0 ∧ w.cell? ⟨b, 1, none⟩ = some x1 ∧ w.cell? ⟨b, 2, none⟩ = some x2 :=
  ⟨cell_blk h 0 _ rfl, cell_blk h 1 _ rfl, cell_blk h 2 _ rfl⟩
theorem below_set5 {B : Nat} {w w1 : World} (h : Below B w w1) {b : Nat} (hb : B ≤ b) (y0 y1 y2 y3 y4 : Value) : Below B w (((((w1.setCell ⟨b, 0, none⟩ y0).setCell ⟨b, 1, none⟩ y1).setCell ⟨b, 2, none⟩ y2).setCell ⟨b, 3, none⟩ y3).setCell ⟨b, 4, none⟩ y4) :=
  ((((h.setCell (p := ⟨b, 0, none⟩) hb _).setCell (p := ⟨b, 1, none⟩) hb _).setCell (p := ⟨b, 2, none⟩) hb _).setCell (p := ⟨b, 3, none⟩) hb _).setCell (p := ⟨b, 4, none⟩) hb _
theorem PBox.set5 {w : World} {ok ok' : Nat → Prop} {b : Nat} {p q : Proto} {AA AA' : Nat → Option Addr} {cc cc' : Nat → Nat} (h : PBox w ok' b q AA' cc') (hb : ∀ k, ok k → k ≠ b) (hr : ∀ k, k < 5 → Kd.R kRule 145 w 0 ok (.slice (AA k) 4 (cc k)) (p.tab k)) (hv : validP p = true) :
    PBox (((((w.setCell ⟨b, 0, none⟩ (.slice (AA 0) 4 (cc 0))).setCell ⟨b, 1, none⟩ (.slice (AA 1) 4 (cc 1))).setCell ⟨b, 2, none⟩ (.slice (AA 2) 4 (cc 2))).setCell ⟨b, 3, none⟩ (.slice (AA 3) 4 (cc 3))).setCell ⟨b, 4, none⟩ (.slice (AA 4) 4 (cc 4))) ok b p AA cc :=
  ⟨Ca.set5 h.blk _ _ _ _ _, fun k hk => Kd.R_far (Kd.R_far (Kd.R_far (Kd.R_far (Kd.R_far (hr k hk) (p := ⟨b, 0, none⟩) hb _) (p := ⟨b, 1, none⟩) hb _) (p := ⟨b, 2, none⟩) hb _) (p := ⟨b, 3, none⟩) hb _) (p := ⟨b, 4, none⟩) hb _, hv⟩
theorem PBox.protoB {w : World} {ok : Nat → Prop} {g : Nat} {p : Proto} {AA : Nat → Option Addr} {cc : Nat → Nat} (h : PBox w ok g p AA cc) (k : Nat) (hk : k < 5) : Kd.C kRule w (AA k) 4 (p.tab k) := by
  have h1 := Kd.R_reads' (h.tabs k hk)
  rw [h1.1]; exact h1.2.2
theorem msi_valid (x : Bool) : validP (msiP (if x then 2 else 1)) = true := by cases x; exact valid_msi.1; exact valid_msi.2
theorem thr_valid (x : Bool) : validP (thrP (if x then 1 else 0)) = true := by cases x; exact valid_thr.1; exact valid_thr.2
set_option maxHeartbeats 8000000 in
set_option maxRecDepth 100000 in
theorem R8Protocol (A : Option Addr) (n c : Nat) (bs : List Int) (w : World) (hB : Bytes w A n bs) :
    Calls Try.prog 44 #[.slice A n c] w fun e w' => ∃ v p, e = .returned v ∧ ProtoV w' p v ∧ validP p = true ∧ Below w.heap.size w w' := by
  have HBy := Lib.hid hB
  clear hB
  go_enter Try.func44, Try.ntmps44
  go_wp2_with fail
  refine (l00From A n c _).mono ?_
  rintro e w1 ⟨rfl, hS1, hB1, hlt1⟩
  have hst : St w A n c bs 0 w1 := by
    have hz : (w.alloc (.cells #[.slice none 0 0, .slice none 0 0, .slice none 0 0, .slice none 0 0, .slice none 0 0] 50)).heap.size = w.heap.size + 1 := by simp
    rw [hz] at hS1 hB1 hlt1
    have hb : Below w.heap.size w w1 := ((Below.refl _ _).alloc (Nat.le_refl _) _).trans (hB1.mono (by omega))
    exact ⟨hb, (hB1.block _ (by omega)).trans (heap_alloc_new w _), hS1, hlt1, HBy.out.below hb⟩
  have HST1 := Lib.hid hst
  clear hst hS1 hB1 hlt1
  go_wp2_with fail
  refine (one (w.heap.size + 1) A n c bs 0 2 _ HST1.out.src (by omega) HST1.out.bytes (by omega) (by omega)).mono ?_
  rintro e w2 ⟨x1, rfl, hS, hC⟩
  have HST2 := Lib.hid (HST1.out.chg hS hC HBy.out)
  clear hS hC
  go_wp2_with fail
  refine (MsiSpec x1 _).mono ?_
  rintro e w3 ⟨v, rfl, hv, hb⟩
  have hst := HST2.out.after hb
  obtain ⟨AA, cc, rfl, hR⟩ := hv
  have hr2 := HST2.out.room
  obtain ⟨g, hg⟩ : ∃ g, w3.heap.size = g := ⟨_, rfl⟩
  have hgg : w.heap.size + 1 < g := by have := hst.room; omega
  have hpb := PBox.made (ok := fun q => w.heap.size + 2 ≤ q) (g := g) (fun k hk => Kd.R_mono (hR k hk) (fun q hq => by omega)) (msi_valid x1) hg
  have hst4 := hst.after ((Below.refl _ _).alloc (Nat.le_refl _) (.cells #[.slice (AA 0) 4 (cc 0), .slice (AA 1) 4 (cc 1), .slice (AA 2) 4 (cc 2), .slice (AA 3) 4 (cc 3), .slice (AA 4) 4 (cc 4)] 50))
  obtain ⟨p, hp⟩ : ∃ p, msiP (if x1 then 2 else 1) = p := ⟨_, rfl⟩
  rw [hp] at hpb
  have HPB4 := Lib.hid hpb
  have HST4 := Lib.hid hst4
  have HG := Lib.hid hg
  clear hst hR hb hr2 hpb hst4 hp
  go_wp2_with fail
  refine (one (w.heap.size + 1) A n c bs 1 3 _ HST4.out.src (by omega) HST4.out.bytes (by omega) (by omega)).mono ?_
  rintro e w5 ⟨x2, rfl, hS, hC⟩
  have HST5 := Lib.hid (HST4.out.chg hS hC HBy.out)
  have HPB5 := Lib.hid (HPB4.out.chg hC (fun q h => by omega) (by omega))
  clear hS hC HST4 HPB4
  cases x2 with
  | true =>
    go_wp2_with fail
    refine (one (w.heap.size + 1) A n c bs 2 2 _ HST5.out.src (by omega) HST5.out.bytes (by omega) (by omega)).mono ?_
    rintro e w6 ⟨x3, rfl, hS, hC⟩
    have HST6 := Lib.hid (HST5.out.chg hS hC HBy.out)
    have HPB6 := Lib.hid (HPB5.out.chg hC (fun q h => by omega) (by omega))
    clear hS hC
    go_wp2_with fail
    refine (ThroughSpec x3 _).mono ?_
    rintro e w7 ⟨v, rfl, hv, hb⟩
    obtain ⟨AB, cb, rfl, hR⟩ := hv
    have hst := HST6.out.after hb
    have hpb := HPB6.out.after hb
    have hr6 := HST6.out.room
    have hg6 := heap_lt HPB6.out.blk
    obtain ⟨m0, m1, m2, m3, m4⟩ := box5 hpb.blk
    have m0f := Lib.frozen_of_heap hpb.blk 0
    have m1f := Lib.frozen_of_heap hpb.blk 1
    have m2f := Lib.frozen_of_heap hpb.blk 2
    have m3f := Lib.frozen_of_heap hpb.blk 3
    have m4f := Lib.frozen_of_heap hpb.blk 4
    have HST7 := Lib.hid ((((((hst.set ⟨g, 0, none⟩ (by simp; omega) (.slice (AB 0) 4 (cb 0)) HBy.out).set ⟨g, 1, none⟩ (by simp; omega) (.slice (AB 1) 4 (cb 1)) HBy.out).set ⟨g, 2, none⟩ (by simp; omega) (.slice (AB 2) 4 (cb 2)) HBy.out).set ⟨g, 3, none⟩ (by simp; omega) (.slice (AB 3) 4 (cb 3)) HBy.out).set ⟨g, 4, none⟩ (by simp; omega) (.slice (AB 4) 4 (cb 4)) HBy.out))
    have HPB7 := Lib.hid (PBox.set5 (ok := fun q => w.heap.size + 2 ≤ q ∧ q ≠ g) hpb (fun k hk => hk.2) (fun k hk => Kd.R_mono (hR k hk) (fun q hq => by omega)) (thr_valid x3))
    obtain ⟨p, hp1⟩ : ∃ p, thrP (if x3 then 1 else 0) = p := ⟨_, rfl⟩
    rw [hp1] at HPB7
    clear hp1 hst hpb hr6 hg6 hb hR HPB6 HPB5
    go_wp2_with fail
    refine (one (w.heap.size + 1) A n c bs 3 2 _ HST7.out.src (by omega) HST7.out.bytes (by omega) (by omega)).mono ?_
    rintro e wa ⟨x4, rfl, hS, hC⟩
    have HSTa := Lib.hid (HST7.out.chg hS hC HBy.out)
    have HPBa := Lib.hid (HPB7.out.chg hC (fun q h => by omega) (by omega))
    clear hS hC
    cases x4 with
    | true =>
      have g0 := HPBa.out.cell 0 (by omega)
      have g1 := HPBa.out.cell 1 (by omega)
      have g2 := HPBa.out.cell 2 (by omega)
      have g3 := HPBa.out.cell 3 (by omega)
      have g4 := HPBa.out.cell 4 (by omega)
      have q0 := cell_blk (HSTa.out.box) 0 _ rfl
      have q0f := Lib.frozen_of_heap (HSTa.out.box) 0
      have q1 := cell_blk (HSTa.out.box) 1 _ rfl
      have q1f := Lib.frozen_of_heap (HSTa.out.box) 1
      have q2 := cell_blk (HSTa.out.box) 2 _ rfl
      have q2f := Lib.frozen_of_heap (HSTa.out.box) 2
      have q3 := cell_blk (HSTa.out.box) 3 _ rfl
      have q3f := Lib.frozen_of_heap (HSTa.out.box) 3
      have q4 := cell_blk (HSTa.out.box) 4 _ rfl
      have q4f := Lib.frozen_of_heap (HSTa.out.box) 4
      go_wp2_with fail
      refine bodyPost_ret (v := .agg #[.slice (AB 0) 4 (cb 0), .slice (AB 1) 4 (cb 1), .slice (AB 2) 4 (cb 2), .slice (AB 3) 4 (cb 3), .slice (AB 4) 4 (cb 4)]) (by simp [results, Try.results44, go_sem, q0, q1, q2, q3, q4]) rfl ⟨_, _, rfl, ProtoV.set5 HPBa.out.protoV HSTa.out.box _ _ _ _ _, HPBa.out.valid, below_set5 HSTa.out.below (Nat.le_refl _) _ _ _ _ _⟩
    | false =>
      go_wp2_with fail
      refine (pick (w.heap.size + 1) A n c bs 4 5 _ HSTa.out.src (by omega) HSTa.out.bytes (by omega) (by omega)).mono ?_
      rintro e wb ⟨tz, rfl, htz, hS, hC⟩
      have HSTb := Lib.hid (HSTa.out.chg hS hC HBy.out)
      have HPBb := Lib.hid (HPBa.out.chg hC (fun q h => by omega) (by omega))
      obtain ⟨t, rfl⟩ := Int.eq_ofNat_of_zero_le htz.1
      have ht5 : t < 5 := by omega
      clear hS hC htz
      go_wp2_with fail
      refine (pick (w.heap.size + 1) A n c bs 5 4 _ HSTb.out.src (by omega) HSTb.out.bytes (by omega) (by omega)).mono ?_
      rintro e wc ⟨hz, rfl, hhz, hS, hC⟩
      have HSTc := Lib.hid (HSTb.out.chg hS hC HBy.out)
      have HPBc := Lib.hid (HPBb.out.chg hC (fun q h => by omega) (by omega))
      obtain ⟨hd, rfl⟩ := Int.eq_ofNat_of_zero_le hhz.1
      have hd4 : hd < 4 := by omega
      clear hS hC hhz
      go_wp2_with fail
      refine (l10TablesX g AB (fun _ => 4) cb _ (fun k hk => HPBc.out.cell k hk)).mono ?_
      rintro e wd ⟨rfl, hb, hlt, htc⟩
      have HSTd := Lib.hid (HSTc.out.after hb)
      have HPBd := Lib.hid (HPBc.out.after hb)
      have tc := htc t ht5
      have hl4 : (p.tab t).length = 4 := ((validP_iff p).1 HPBd.out.valid t ht5).1
      obtain ⟨ad, ea, r0, r1, r2⟩ := C_ruleN (HPBd.out.protoB t ht5) hd (by omega) hl4.symm
      obtain ⟨⟨rn, rs, rb⟩, hr⟩ : ∃ r, (p.tab t)[hd]'(by omega) = r := ⟨_, rfl⟩
      rw [hr] at r0 r1 r2
      rw [ea] at tc
      clear hr ea hb hlt htc hl4
      have bt0 : (0 : Int) ≤ (t : Int) := by omega
      have bt5 : (t : Int) < 5 := by omega
      have bh0 : (0 : Int) ≤ (hd : Int) := by omega
      have bh4 : (hd : Int) < 4 := by omega
      go_wp2_with fail
      obtain ⟨we, hwe⟩ : ∃ we, we = wd.alloc (.cells #[.int .i64 rn, .int .i64 rs, .bool rb] 145) := ⟨_, rfl⟩
      have hbe : Below wd.heap.size wd we := by rw [hwe]; exact (Below.refl _ _).alloc (Nat.le_refl _) _
      have HSTe := Lib.hid (HSTd.out.after hbe)
      have HPBe := Lib.hid ((HPBd.out.avoid (r := wd.heap.size) (Nat.le_refl _)).after hbe)
      have hre : we.heap[wd.heap.size]? = some (.cells #[.int .i64 rn, .int .i64 rs, .bool rb] 145 (0, 0)) := by rw [hwe]; exact heap_alloc_new wd _
      obtain ⟨r, hr⟩ : ∃ r, wd.heap.size = r := ⟨_, rfl⟩
      have hr1 : w.heap.size + 1 < r := by have := HSTd.out.room; omega
      have hr2 : g < r := by have := heap_lt HPBd.out.blk; omega
      rw [hr] at hre
      rw [← hwe]
      rw [hr] at HPBe
      simp only [hr]
      clear hr hbe hwe tc r0 r1 r2
      refine (one (w.heap.size + 1) A n c bs 6 2 _ HSTe.out.src (by omega) HSTe.out.bytes (by omega) (by omega)).mono ?_
      rintro e wf ⟨x6, rfl, hS, hC⟩
      have HSTf := Lib.hid (HSTe.out.chg hS hC HBy.out)
      have HPBf := Lib.hid (HPBe.out.chg hC (fun q h => by omega) (by omega))
      have hrf := (hC.block r (heap_lt hre) (by omega)).trans hre
      clear hS hC hre
      cases x6 with
      | true =>
        go_wp2_with fail
        refine (pick (w.heap.size + 1) A n c bs 7 4 _ HSTf.out.src (by omega) HSTf.out.bytes (by omega) (by omega)).mono ?_
        rintro e wg ⟨nz, rfl, hnz, hS, hC⟩
        have hrg := (hC.block r (heap_lt hrf) (by omega)).trans hrf
        have HSTo := HSTf.out.chg hS hC HBy.out
        have HPBo := HPBf.out.chg hC (fun q h => by omega) (by omega)
        have HSTg := Lib.hid (HSTo.set ⟨r, 0, none⟩ (by simp; omega) (.int .i64 nz) HBy.out)
        have HPBg := Lib.hid (HPBo.set (q := ⟨r, 0, none⟩) (fun q h => by simp; omega) (by simp; omega) (.int .i64 nz))
        obtain ⟨k0, k1, k2⟩ := box3 hrg
        have kf := Lib.frozen_of_heap hrg 0
        have g0 := HPBo.cell 0 (by omega)
        have g1 := HPBo.cell 1 (by omega)
        have g2 := HPBo.cell 2 (by omega)
        have g3 := HPBo.cell 3 (by omega)
        have g4 := HPBo.cell 4 (by omega)
        clear hS hC hrf hrg HSTo HPBo hnz
        go_wp2_with fail
        refine (ChangeRule p _ (⟨nz, rs, rb⟩ : Rule) t hd _ HPBg.out.protoV HPBg.out.valid ht5 hd4).mono ?_
        rintro e wk ⟨v', p', ok, rfl, hv', hok, hb⟩
        obtain ⟨BB, dd, rfl, hT⟩ := hv'.tabs
        have HSTk := Lib.hid (HSTg.out.after hb)
        have HPBk := Lib.hid (HPBg.out.after hb)
        have HV' := Lib.hid hv'
        clear g0 g1 g2 g3 g4 k0 k1 k2 kf hT hv' hb
        cases ok with
        | true =>
          have HOK := Lib.hid (hok rfl)
          clear hok
          have hbl : Below wk.heap.size wk (wk.alloc (.cells #[.slice (BB 0) (p'.tab 0).length (dd 0), .slice (BB 1) (p'.tab 1).length (dd 1), .slice (BB 2) (p'.tab 2).length (dd 2), .slice (BB 3) (p'.tab 3).length (dd 3), .slice (BB 4) (p'.tab 4).length (dd 4)] 50)) := (Below.refl _ _).alloc (Nat.le_refl _) _
          have HSTl := Lib.hid (HSTk.out.after hbl)
          have hkl : (wk.alloc (.cells #[.slice (BB 0) (p'.tab 0).length (dd 0), .slice (BB 1) (p'.tab 1).length (dd 1), .slice (BB 2) (p'.tab 2).length (dd 2), .slice (BB 3) (p'.tab 3).length (dd 3), .slice (BB 4) (p'.tab 4).length (dd 4)] 50)).heap[wk.heap.size]? = some (.cells #[.slice (BB 0) (p'.tab 0).length (dd 0), .slice (BB 1) (p'.tab 1).length (dd 1), .slice (BB 2) (p'.tab 2).length (dd 2), .slice (BB 3) (p'.tab 3).length (dd 3), .slice (BB 4) (p'.tab 4).length (dd 4)] 50 (0, 0)) := heap_alloc_new wk _
          obtain ⟨m0, m1, m2, m3, m4⟩ := box5 hkl
          have HVl := Lib.hid (HV'.out.below hbl)
          clear hbl hkl
          have q0 := cell_blk (HSTl.out.box) 0 _ rfl
          have q0f := Lib.frozen_of_heap (HSTl.out.box) 0
          have q1 := cell_blk (HSTl.out.box) 1 _ rfl
          have q1f := Lib.frozen_of_heap (HSTl.out.box) 1
          have q2 := cell_blk (HSTl.out.box) 2 _ rfl
          have q2f := Lib.frozen_of_heap (HSTl.out.box) 2
          have q3 := cell_blk (HSTl.out.box) 3 _ rfl
          have q3f := Lib.frozen_of_heap (HSTl.out.box) 3
          have q4 := cell_blk (HSTl.out.box) 4 _ rfl
          have q4f := Lib.frozen_of_heap (HSTl.out.box) 4
          go_wp2_with fail
          refine bodyPost_ret (v := .agg #[.slice (BB 0) (p'.tab 0).length (dd 0), .slice (BB 1) (p'.tab 1).length (dd 1), .slice (BB 2) (p'.tab 2).length (dd 2), .slice (BB 3) (p'.tab 3).length (dd 3), .slice (BB 4) (p'.tab 4).length (dd 4)]) (by simp [results, Try.results44, go_sem, q0, q1, q2, q3, q4]) rfl ⟨_, _, rfl, ProtoV.set5 HVl.out HSTl.out.box _ _ _ _ _, HOK.out, below_set5 HSTl.out.below (Nat.le_refl _) _ _ _ _ _⟩
        | false =>
          clear hok
          have hbl : Below wk.heap.size wk (wk.alloc (.cells #[.slice (BB 0) (p'.tab 0).length (dd 0), .slice (BB 1) (p'.tab 1).length (dd 1), .slice (BB 2) (p'.tab 2).length (dd 2), .slice (BB 3) (p'.tab 3).length (dd 3), .slice (BB 4) (p'.tab 4).length (dd 4)] 50)) := (Below.refl _ _).alloc (Nat.le_refl _) _
          have HSTl := Lib.hid (HSTk.out.after hbl)
          have HPBl := Lib.hid (HPBk.out.after hbl)
          clear hbl
          have g0 := HPBl.out.cell 0 (by omega)
          have g1 := HPBl.out.cell 1 (by omega)
          have g2 := HPBl.out.cell 2 (by omega)
          have g3 := HPBl.out.cell 3 (by omega)
          have g4 := HPBl.out.cell 4 (by omega)
          have q0 := cell_blk (HSTl.out.box) 0 _ rfl
          have q0f := Lib.frozen_of_heap (HSTl.out.box) 0
          have q1 := cell_blk (HSTl.out.box) 1 _ rfl
          have q1f := Lib.frozen_of_heap (HSTl.out.box) 1
          have q2 := cell_blk (HSTl.out.box) 2 _ rfl
          have q2f := Lib.frozen_of_heap (HSTl.out.box) 2
          have q3 := cell_blk (HSTl.out.box) 3 _ rfl
          have q3f := Lib.frozen_of_heap (HSTl.out.box) 3
          have q4 := cell_blk (HSTl.out.box) 4 _ rfl
          have q4f := Lib.frozen_of_heap (HSTl.out.box) 4
          go_wp2_with fail
          refine bodyPost_ret (v := .agg #[.slice (AB 0) 4 (cb 0), .slice (AB 1) 4 (cb 1), .slice (AB 2) 4 (cb 2), .slice (AB 3) 4 (cb 3), .slice (AB 4) 4 (cb 4)]) (by simp [results, Try.results44, go_sem, q0, q1, q2, q3, q4]) rfl ⟨_, _, rfl, ProtoV.set5 HPBl.out.protoV HSTl.out.box _ _ _ _ _, HPBl.out.valid, below_set5 HSTl.out.below (Nat.le_refl _) _ _ _ _ _⟩
      | false =>
        have HSTg := HSTf.out.set ⟨r, 2, none⟩ (by simp; omega) (.bool (!rb)) HBy.out
        have HPBg := HPBf.out.set (q := ⟨r, 2, none⟩) (fun q h => by simp; omega) (by simp; omega) (.bool (!rb))
        obtain ⟨k0, k1, k2⟩ := box3 hrf
        have kf := Lib.frozen_of_heap hrf 2
        have g0 := HPBf.out.cell 0 (by omega)
        have g1 := HPBf.out.cell 1 (by omega)
        have g2 := HPBf.out.cell 2 (by omega)
        have g3 := HPBf.out.cell 3 (by omega)
        have g4 := HPBf.out.cell 4 (by omega)
        replace HSTg := Lib.hid HSTg
        replace HPBg := Lib.hid HPBg
        clear hrf
        go_wp2_with fail
        refine (ChangeRule p _ (⟨rn, rs, !rb⟩ : Rule) t hd _ HPBg.out.protoV HPBg.out.valid ht5 hd4).mono ?_
        rintro e wk ⟨v', p', ok, rfl, hv', hok, hb⟩
        obtain ⟨BB, dd, rfl, hT⟩ := hv'.tabs
        have HSTk := Lib.hid (HSTg.out.after hb)
        have HPBk := Lib.hid (HPBg.out.after hb)
        have HV' := Lib.hid hv'
        clear g0 g1 g2 g3 g4 k0 k1 k2 kf hT hv' hb
        cases ok with
        | true =>
          have HOK := Lib.hid (hok rfl)
          clear hok
          have hbl : Below wk.heap.size wk (wk.alloc (.cells #[.slice (BB 0) (p'.tab 0).length (dd 0), .slice (BB 1) (p'.tab 1).length (dd 1), .slice (BB 2) (p'.tab 2).length (dd 2), .slice (BB 3) (p'.tab 3).length (dd 3), .slice (BB 4) (p'.tab 4).length (dd 4)] 50)) := (Below.refl _ _).alloc (Nat.le_refl _) _
          have HSTl := Lib.hid (HSTk.out.after hbl)
          have hkl : (wk.alloc (.cells #[.slice (BB 0) (p'.tab 0).length (dd 0), .slice (BB 1) (p'.tab 1).length (dd 1), .slice (BB 2) (p'.tab 2).length (dd 2), .slice (BB 3) (p'.tab 3).length (dd 3), .slice (BB 4) (p'.tab 4).length (dd 4)] 50)).heap[wk.heap.size]? = some (.cells #[.slice (BB 0) (p'.tab 0).length (dd 0), .slice (BB 1) (p'.tab 1).length (dd 1), .slice (BB 2) (p'.tab 2).length (dd 2), .slice (BB 3) (p'.tab 3).length (dd 3), .slice (BB 4) (p'.tab 4).length (dd 4)] 50 (0, 0)) := heap_alloc_new wk _
          obtain ⟨m0, m1, m2, m3, m4⟩ := box5 hkl
          have HVl := Lib.hid (HV'.out.below hbl)
          clear hbl hkl
          have q0 := cell_blk (HSTl.out.box) 0 _ rfl
          have q0f := Lib.frozen_of_heap (HSTl.out.box) 0
          have q1 := cell_blk (HSTl.out.box) 1 _ rfl
          have q1f := Lib.frozen_of_heap (HSTl.out.box) 1
          have q2 := cell_blk (HSTl.out.box) 2 _ rfl
          have q2f := Lib.frozen_of_heap (HSTl.out.box) 2
          have q3 := cell_blk (HSTl.out.box) 3 _ rfl
          have q3f := Lib.frozen_of_heap (HSTl.out.box) 3
          have q4 := cell_blk (HSTl.out.box) 4 _ rfl
          have q4f := Lib.frozen_of_heap (HSTl.out.box) 4
          go_wp2_with fail
          refine bodyPost_ret (v := .agg #[.slice (BB 0) (p'.tab 0).length (dd 0), .slice (BB 1) (p'.tab 1).length (dd 1), .slice (BB 2) (p'.tab 2).length (dd 2), .slice (BB 3) (p'.tab 3).length (dd 3), .slice (BB 4) (p'.tab 4).length (dd 4)]) (by simp [results, Try.results44, go_sem, q0, q1, q2, q3, q4]) rfl ⟨_, _, rfl, ProtoV.set5 HVl.out HSTl.out.box _ _ _ _ _, HOK.out, below_set5 HSTl.out.below (Nat.le_refl _) _ _ _ _ _⟩
        | false =>
          clear hok
          have hbl : Below wk.heap.size wk (wk.alloc (.cells #[.slice (BB 0) (p'.tab 0).length (dd 0), .slice (BB 1) (p'.tab 1).length (dd 1), .slice (BB 2) (p'.tab 2).length (dd 2), .slice (BB 3) (p'.tab 3).length (dd 3), .slice (BB 4) (p'.tab 4).length (dd 4)] 50)) := (Below.refl _ _).alloc (Nat.le_refl _) _
          have HSTl := Lib.hid (HSTk.out.after hbl)
          have HPBl := Lib.hid (HPBk.out.after hbl)
          clear hbl
          have g0 := HPBl.out.cell 0 (by omega)
          have g1 := HPBl.out.cell 1 (by omega)
          have g2 := HPBl.out.cell 2 (by omega)
          have g3 := HPBl.out.cell 3 (by omega)
          have g4 := HPBl.out.cell 4 (by omega)
          have q0 := cell_blk (HSTl.out.box) 0 _ rfl
          have q0f := Lib.frozen_of_heap (HSTl.out.box) 0
          have q1 := cell_blk (HSTl.out.box) 1 _ rfl
          have q1f := Lib.frozen_of_heap (HSTl.out.box) 1
          have q2 := cell_blk (HSTl.out.box) 2 _ rfl
          have q2f := Lib.frozen_of_heap (HSTl.out.box) 2
          have q3 := cell_blk (HSTl.out.box) 3 _ rfl
          have q3f := Lib.frozen_of_heap (HSTl.out.box) 3
          have q4 := cell_blk (HSTl.out.box) 4 _ rfl
          have q4f := Lib.frozen_of_heap (HSTl.out.box) 4
          go_wp2_with fail
          refine bodyPost_ret (v := .agg #[.slice (AB 0) 4 (cb 0), .slice (AB 1) 4 (cb 1), .slice (AB 2) 4 (cb 2), .slice (AB 3) 4 (cb 3), .slice (AB 4) 4 (cb 4)]) (by simp [results, Try.results44, go_sem, q0, q1, q2, q3, q4]) rfl ⟨_, _, rfl, ProtoV.set5 HPBl.out.protoV HSTl.out.box _ _ _ _ _, HPBl.out.valid, below_set5 HSTl.out.below (Nat.le_refl _) _ _ _ _ _⟩
  | false =>
    have HST7 := Lib.hid (HST5.out.mono (show (1 + 1 : Int) ≤ 3 by omega))
    have HPB7 := HPB5
    go_wp2_with fail
    refine (one (w.heap.size + 1) A n c bs 3 2 _ HST7.out.src (by omega) HST7.out.bytes (by omega) (by omega)).mono ?_
    rintro e wa ⟨x4, rfl, hS, hC⟩
    have HSTa := Lib.hid (HST7.out.chg hS hC HBy.out)
    have HPBa := Lib.hid (HPB7.out.chg hC (fun q h => by omega) (by omega))
    clear hS hC
    cases x4 with
    | true =>
      have g0 := HPBa.out.cell 0 (by omega)
      have g1 := HPBa.out.cell 1 (by omega)
      have g2 := HPBa.out.cell 2 (by omega)
      have g3 := HPBa.out.cell 3 (by omega)
      have g4 := HPBa.out.cell 4 (by omega)
      have q0 := cell_blk (HSTa.out.box) 0 _ rfl
      have q0f := Lib.frozen_of_heap (HSTa.out.box) 0
      have q1 := cell_blk (HSTa.out.box) 1 _ rfl
      have q1f := Lib.frozen_of_heap (HSTa.out.box) 1
      have q2 := cell_blk (HSTa.out.box) 2 _ rfl
      have q2f := Lib.frozen_of_heap (HSTa.out.box) 2
      have q3 := cell_blk (HSTa.out.box) 3 _ rfl
      have q3f := Lib.frozen_of_heap (HSTa.out.box) 3
      have q4 := cell_blk (HSTa.out.box) 4 _ rfl
      have q4f := Lib.frozen_of_heap (HSTa.out.box) 4
      go_wp2_with fail
      refine bodyPost_ret (v := .agg #[.slice (AA 0) 4 (cc 0), .slice (AA 1) 4 (cc 1), .slice (AA 2) 4 (cc 2), .slice (AA 3) 4 (cc 3), .slice (AA 4) 4 (cc 4)]) (by simp [results, Try.results44, go_sem, q0, q1, q2, q3, q4]) rfl ⟨_, _, rfl, ProtoV.set5 HPBa.out.protoV HSTa.out.box _ _ _ _ _, HPBa.out.valid, below_set5 HSTa.out.below (Nat.le_refl _) _ _ _ _ _⟩
    | false =>
      go_wp2_with fail
      refine (pick (w.heap.size + 1) A n c bs 4 5 _ HSTa.out.src (by omega) HSTa.out.bytes (by omega) (by omega)).mono ?_
      rintro e wb ⟨tz, rfl, htz, hS, hC⟩
      have HSTb := Lib.hid (HSTa.out.chg hS hC HBy.out)
      have HPBb := Lib.hid (HPBa.out.chg hC (fun q h => by omega) (by omega))
      obtain ⟨t, rfl⟩ := Int.eq_ofNat_of_zero_le htz.1
      have ht5 : t < 5 := by omega
      clear hS hC htz
      go_wp2_with fail
      refine (pick (w.heap.size + 1) A n c bs 5 4 _ HSTb.out.src (by omega) HSTb.out.bytes (by omega) (by omega)).mono ?_
      rintro e wc ⟨hz, rfl, hhz, hS, hC⟩
      have HSTc := Lib.hid (HSTb.out.chg hS hC HBy.out)
      have HPBc := Lib.hid (HPBb.out.chg hC (fun q h => by omega) (by omega))
      obtain ⟨hd, rfl⟩ := Int.eq_ofNat_of_zero_le hhz.1
      have hd4 : hd < 4 := by omega
      clear hS hC hhz
      go_wp2_with fail
      refine (l10TablesX g AA (fun _ => 4) cc _ (fun k hk => HPBc.out.cell k hk)).mono ?_
      rintro e wd ⟨rfl, hb, hlt, htc⟩
      have HSTd := Lib.hid (HSTc.out.after hb)
      have HPBd := Lib.hid (HPBc.out.after hb)
      have tc := htc t ht5
      have hl4 : (p.tab t).length = 4 := ((validP_iff p).1 HPBd.out.valid t ht5).1
      obtain ⟨ad, ea, r0, r1, r2⟩ := C_ruleN (HPBd.out.protoB t ht5) hd (by omega) hl4.symm
      obtain ⟨⟨rn, rs, rb⟩, hr⟩ : ∃ r, (p.tab t)[hd]'(by omega) = r := ⟨_, rfl⟩
      rw [hr] at r0 r1 r2
      rw [ea] at tc
      clear hr ea hb hlt htc hl4
      have bt0 : (0 : Int) ≤ (t : Int) := by omega
      have bt5 : (t : Int) < 5 := by omega
      have bh0 : (0 : Int) ≤ (hd : Int) := by omega
      have bh4 : (hd : Int) < 4 := by omega
      go_wp2_with fail
      obtain ⟨we, hwe⟩ : ∃ we, we = wd.alloc (.cells #[.int .i64 rn, .int .i64 rs, .bool rb] 145) := ⟨_, rfl⟩
      have hbe : Below wd.heap.size wd we := by rw [hwe]; exact (Below.refl _ _).alloc (Nat.le_refl _) _
      have HSTe := Lib.hid (HSTd.out.after hbe)
      have HPBe := Lib.hid ((HPBd.out.avoid (r := wd.heap.size) (Nat.le_refl _)).after hbe)
      have hre : we.heap[wd.heap.size]? = some (.cells #[.int .i64 rn, .int .i64 rs, .bool rb] 145 (0, 0)) := by rw [hwe]; exact heap_alloc_new wd _
      obtain ⟨r, hr⟩ : ∃ r, wd.heap.size = r := ⟨_, rfl⟩
      have hr1 : w.heap.size + 1 < r := by have := HSTd.out.room; omega
      have hr2 : g < r := by have := heap_lt HPBd.out.blk; omega
      rw [hr] at hre
      rw [← hwe]
      rw [hr] at HPBe
      simp only [hr]
      clear hr hbe hwe tc r0 r1 r2
      refine (one (w.heap.size + 1) A n c bs 6 2 _ HSTe.out.src (by omega) HSTe.out.bytes (by omega) (by omega)).mono ?_
      rintro e wf ⟨x6, rfl, hS, hC⟩
      have HSTf := Lib.hid (HSTe.out.chg hS hC HBy.out)
      have HPBf := Lib.hid (HPBe.out.chg hC (fun q h => by omega) (by omega))
      have hrf := (hC.block r (heap_lt hre) (by omega)).trans hre
      clear hS hC hre
      cases x6 with
      | true =>
        go_wp2_with fail
        refine (pick (w.heap.size + 1) A n c bs 7 4 _ HSTf.out.src (by omega) HSTf.out.bytes (by omega) (by omega)).mono ?_
        rintro e wg ⟨nz, rfl, hnz, hS, hC⟩
        have hrg := (hC.block r (heap_lt hrf) (by omega)).trans hrf
        have HSTo := HSTf.out.chg hS hC HBy.out
        have HPBo := HPBf.out.chg hC (fun q h => by omega) (by omega)
        have HSTg := Lib.hid (HSTo.set ⟨r, 0, none⟩ (by simp; omega) (.int .i64 nz) HBy.out)
        have HPBg := Lib.hid (HPBo.set (q := ⟨r, 0, none⟩) (fun q h => by simp; omega) (by simp; omega) (.int .i64 nz))
        obtain ⟨k0, k1, k2⟩ := box3 hrg
        have kf := Lib.frozen_of_heap hrg 0
        have g0 := HPBo.cell 0 (by omega)
        have g1 := HPBo.cell 1 (by omega)
        have g2 := HPBo.cell 2 (by omega)
        have g3 := HPBo.cell 3 (by omega)
        have g4 := HPBo.cell 4 (by omega)
        clear hS hC hrf hrg HSTo HPBo hnz
        go_wp2_with fail
        refine (ChangeRule p _ (⟨nz, rs, rb⟩ : Rule) t hd _ HPBg.out.protoV HPBg.out.valid ht5 hd4).mono ?_
        rintro e wk ⟨v', p', ok, rfl, hv', hok, hb⟩
        obtain ⟨BB, dd, rfl, hT⟩ := hv'.tabs
        have HSTk := Lib.hid (HSTg.out.after hb)
        have HPBk := Lib.hid (HPBg.out.after hb)
        have HV' := Lib.hid hv'
        clear g0 g1 g2 g3 g4 k0 k1 k2 kf hT hv' hb
        cases ok with
        | true =>
          have HOK := Lib.hid (hok rfl)
          clear hok
          have hbl : Below wk.heap.size wk (wk.alloc (.cells #[.slice (BB 0) (p'.tab 0).length (dd 0), .slice (BB 1) (p'.tab 1).length (dd 1), .slice (BB 2) (p'.tab 2).length (dd 2), .slice (BB 3) (p'.tab 3).length (dd 3), .slice (BB 4) (p'.tab 4).length (dd 4)] 50)) := (Below.refl _ _).alloc (Nat.le_refl _) _
          have HSTl := Lib.hid (HSTk.out.after hbl)
          have hkl : (wk.alloc (.cells #[.slice (BB 0) (p'.tab 0).length (dd 0), .slice (BB 1) (p'.tab 1).length (dd 1), .slice (BB 2) (p'.tab 2).length (dd 2), .slice (BB 3) (p'.tab 3).length (dd 3), .slice (BB 4) (p'.tab 4).length (dd 4)] 50)).heap[wk.heap.size]? = some (.cells #[.slice (BB 0) (p'.tab 0).length (dd 0), .slice (BB 1) (p'.tab 1).length (dd 1), .slice (BB 2) (p'.tab 2).length (dd 2), .slice (BB 3) (p'.tab 3).length (dd 3), .slice (BB 4) (p'.tab 4).length (dd 4)] 50 (0, 0)) := heap_alloc_new wk _
          obtain ⟨m0, m1, m2, m3, m4⟩ := box5 hkl
          have HVl := Lib.hid (HV'.out.below hbl)
          clear hbl hkl
          have q0 := cell_blk (HSTl.out.box) 0 _ rfl
          have q0f := Lib.frozen_of_heap (HSTl.out.box) 0
          have q1 := cell_blk (HSTl.out.box) 1 _ rfl
          have q1f := Lib.frozen_of_heap (HSTl.out.box) 1
          have q2 := cell_blk (HSTl.out.box) 2 _ rfl
          have q2f := Lib.frozen_of_heap (HSTl.out.box) 2
          have q3 := cell_blk (HSTl.out.box) 3 _ rfl
          have q3f := Lib.frozen_of_heap (HSTl.out.box) 3
          have q4 := cell_blk (HSTl.out.box) 4 _ rfl
          have q4f := Lib.frozen_of_heap (HSTl.out.box) 4
          go_wp2_with fail
          refine bodyPost_ret (v := .agg #[.slice (BB 0) (p'.tab 0).length (dd 0), .slice (BB 1) (p'.tab 1).length (dd 1), .slice (BB 2) (p'.tab 2).length (dd 2), .slice (BB 3) (p'.tab 3).length (dd 3), .slice (BB 4) (p'.tab 4).length (dd 4)]) (by simp [results, Try.results44, go_sem, q0, q1, q2, q3, q4]) rfl ⟨_, _, rfl, ProtoV.set5 HVl.out HSTl.out.box _ _ _ _ _, HOK.out, below_set5 HSTl.out.below (Nat.le_refl _) _ _ _ _ _⟩
        | false =>
          clear hok
          have hbl : Below wk.heap.size wk (wk.alloc (.cells #[.slice (BB 0) (p'.tab 0).length (dd 0), .slice (BB 1) (p'.tab 1).length (dd 1), .slice (BB 2) (p'.tab 2).length (dd 2), .slice (BB 3) (p'.tab 3).length (dd 3), .slice (BB 4) (p'.tab 4).length (dd 4)] 50)) := (Below.refl _ _).alloc (Nat.le_refl _) _
          have HSTl := Lib.hid (HSTk.out.after hbl)
          have HPBl := Lib.hid (HPBk.out.after hbl)
          clear hbl
          have g0 := HPBl.out.cell 0 (by omega)
          have g1 := HPBl.out.cell 1 (by omega)
          have g2 := HPBl.out.cell 2 (by omega)
          have g3 := HPBl.out.cell 3 (by omega)
          have g4 := HPBl.out.cell 4 (by omega)
          have q0 := cell_blk (HSTl.out.box) 0 _ rfl
          have q0f := Lib.frozen_of_heap (HSTl.out.box) 0
          have q1 := cell_blk (HSTl.out.box) 1 _ rfl
          have q1f := Lib.frozen_of_heap (HSTl.out.box) 1
          have q2 := cell_blk (HSTl.out.box) 2 _ rfl
          have q2f := Lib.frozen_of_heap (HSTl.out.box) 2
          have q3 := cell_blk (HSTl.out.box) 3 _ rfl
          have q3f := Lib.frozen_of_heap (HSTl.out.box) 3
          have q4 := cell_blk (HSTl.out.box) 4 _ rfl
          have q4f := Lib.frozen_of_heap (HSTl.out.box) 4
          go_wp2_with fail
          refine bodyPost_ret (v := .agg #[.slice (AA 0) 4 (cc 0), .slice (AA 1) 4 (cc 1), .slice (AA 2) 4 (cc 2), .slice (AA 3) 4 (cc 3), .slice (AA 4) 4 (cc 4)]) (by simp [results, Try.results44, go_sem, q0, q1, q2, q3, q4]) rfl ⟨_, _, rfl, ProtoV.set5 HPBl.out.protoV HSTl.out.box _ _ _ _ _, HPBl.out.valid, below_set5 HSTl.out.below (Nat.le_refl _) _ _ _ _ _⟩
      | false =>
        have HSTg := HSTf.out.set ⟨r, 2, none⟩ (by simp; omega) (.bool (!rb)) HBy.out
        have HPBg := HPBf.out.set (q := ⟨r, 2, none⟩) (fun q h => by simp; omega) (by simp; omega) (.bool (!rb))
        obtain ⟨k0, k1, k2⟩ := box3 hrf
        have kf := Lib.frozen_of_heap hrf 2
        have g0 := HPBf.out.cell 0 (by omega)
        have g1 := HPBf.out.cell 1 (by omega)
        have g2 := HPBf.out.cell 2 (by omega)
        have g3 := HPBf.out.cell 3 (by omega)
        have g4 := HPBf.out.cell 4 (by omega)
        replace HSTg := Lib.hid HSTg
        replace HPBg := Lib.hid HPBg
        clear hrf
        go_wp2_with fail
        refine (ChangeRule p _ (⟨rn, rs, !rb⟩ : Rule) t hd _ HPBg.out.protoV HPBg.out.valid ht5 hd4).mono ?_
        rintro e wk ⟨v', p', ok, rfl, hv', hok, hb⟩
        obtain ⟨BB, dd, rfl, hT⟩ := hv'.tabs
        have HSTk := Lib.hid (HSTg.out.after hb)
        have HPBk := Lib.hid (HPBg.out.after hb)
        have HV' := Lib.hid hv'
        clear g0 g1 g2 g3 g4 k0 k1 k2 kf hT hv' hb
        cases ok with
        | true =>
          have HOK := Lib.hid (hok rfl)
          clear hok
          have hbl : Below wk.heap.size wk (wk.alloc (.cells #[.slice (BB 0) (p'.tab 0).length (dd 0), .slice (BB 1) (p'.tab 1).length (dd 1), .slice (BB 2) (p'.tab 2).length (dd 2), .slice (BB 3) (p'.tab 3).length (dd 3), .slice (BB 4) (p'.tab 4).length (dd 4)] 50)) := (Below.refl _ _).alloc (Nat.le_refl _) _
          have HSTl := Lib.hid (HSTk.out.after hbl)
          have hkl : (wk.alloc (.cells #[.slice (BB 0) (p'.tab 0).length (dd 0), .slice (BB 1) (p'.tab 1).length (dd 1), .slice (BB 2) (p'.tab 2).length (dd 2), .slice (BB 3) (p'.tab 3).length (dd 3), .slice (BB 4) (p'.tab 4).length (dd 4)] 50)).heap[wk.heap.size]? = some (.cells #[.slice (BB 0) (p'.tab 0).length (dd 0), .slice (BB 1) (p'.tab 1).length (dd 1), .slice (BB 2) (p'.tab 2).length (dd 2), .slice (BB 3) (p'.tab 3).length (dd 3), .slice (BB 4) (p'.tab 4).length (dd 4)] 50 (0, 0)) := heap_alloc_new wk _
          obtain ⟨m0, m1, m2, m3, m4⟩ := box5 hkl
          have HVl := Lib.hid (HV'.out.below hbl)
          clear hbl hkl
          have q0 := cell_blk (HSTl.out.box) 0 _ rfl
          have q0f := Lib.frozen_of_heap (HSTl.out.box) 0
          have q1 := cell_blk (HSTl.out.box) 1 _ rfl
          have q1f := Lib.frozen_of_heap (HSTl.out.box) 1
          have q2 := cell_blk (HSTl.out.box) 2 _ rfl
          have q2f := Lib.frozen_of_heap (HSTl.out.box) 2
          have q3 := cell_blk (HSTl.out.box) 3 _ rfl
          have q3f := Lib.frozen_of_heap (HSTl.out.box) 3
          have q4 := cell_blk (HSTl.out.box) 4 _ rfl
          have q4f := Lib.frozen_of_heap (HSTl.out.box) 4
          go_wp2_with fail
          refine bodyPost_ret (v := .agg #[.slice (BB 0) (p'.tab 0).length (dd 0), .slice (BB 1) (p'.tab 1).length (dd 1), .slice (BB 2) (p'.tab 2).length (dd 2), .slice (BB 3) (p'.tab 3).length (dd 3), .slice (BB 4) (p'.tab 4).length (dd 4)]) (by simp [results, Try.results44, go_sem, q0, q1, q2, q3, q4]) rfl ⟨_, _, rfl, ProtoV.set5 HVl.out HSTl.out.box _ _ _ _ _, HOK.out, below_set5 HSTl.out.below (Nat.le_refl _) _ _ _ _ _⟩
        | false =>
          clear hok
          have hbl : Below wk.heap.size wk (wk.alloc (.cells #[.slice (BB 0) (p'.tab 0).length (dd 0), .slice (BB 1) (p'.tab 1).length (dd 1), .slice (BB 2) (p'.tab 2).length (dd 2), .slice (BB 3) (p'.tab 3).length (dd 3), .slice (BB 4) (p'.tab 4).length (dd 4)] 50)) := (Below.refl _ _).alloc (Nat.le_refl _) _
          have HSTl := Lib.hid (HSTk.out.after hbl)
          have HPBl := Lib.hid (HPBk.out.after hbl)
          clear hbl
          have g0 := HPBl.out.cell 0 (by omega)
          have g1 := HPBl.out.cell 1 (by omega)
          have g2 := HPBl.out.cell 2 (by omega)
          have g3 := HPBl.out.cell 3 (by omega)
          have g4 := HPBl.out.cell 4 (by omega)
          have q0 := cell_blk (HSTl.out.box) 0 _ rfl
          have q0f := Lib.frozen_of_heap (HSTl.out.box) 0
          have q1 := cell_blk (HSTl.out.box) 1 _ rfl
          have q1f := Lib.frozen_of_heap (HSTl.out.box) 1
          have q2 := cell_blk (HSTl.out.box) 2 _ rfl
          have q2f := Lib.frozen_of_heap (HSTl.out.box) 2
          have q3 := cell_blk (HSTl.out.box) 3 _ rfl
          have q3f := Lib.frozen_of_heap (HSTl.out.box) 3
          have q4 := cell_blk (HSTl.out.box) 4 _ rfl
          have q4f := Lib.frozen_of_heap (HSTl.out.box) 4
          go_wp2_with fail
          refine bodyPost_ret (v := .agg #[.slice (AA 0) 4 (cc 0), .slice (AA 1) 4 (cc 1), .slice (AA 2) 4 (cc 2), .slice (AA 3) 4 (cc 3), .slice (AA 4) 4 (cc 4)]) (by simp [results, Try.results44, go_sem, q0, q1, q2, q3, q4]) rfl ⟨_, _, rfl, ProtoV.set5 HPBl.out.protoV HSTl.out.box _ _ _ _ _, HPBl.out.valid, below_set5 HSTl.out.below (Nat.le_refl _) _ _ _ _ _⟩
end Go.Proofs.Ytfeabjiccnnpcaa.Ca
