import Derived.Test.YtfeabjiccnnpcaaRa
import Derived.Test.YtfeabjiccnnpcaaSm
set_option linter.unusedVariables false
set_option linter.unusedSimpArgs false
namespace Go.Proofs.Ytfeabjiccnnpcaa.Ca
open Go.RowKit Go.Proofs.YtfeabjiccnnpcaaW.PrintWords Go.Proofs.YtfeabjiccnnpcaaW.PrintLast Go.Proofs.Ytfeabjiccnnpcaa.Ba

theorem C_lit3 (W : World) : Kd.C (Kd.int .i64) (W.alloc (.cells #[.int .i64 3] 2)) (some ⟨W.heap.size, 0, none⟩) 1 [3] := C_lit W [3] (by simp)
theorem C_lit0123 (W : World) : Kd.C (Kd.int .i64) (W.alloc (.cells #[.int .i64 0, .int .i64 1, .int .i64 2, .int .i64 3] 2)) (some ⟨W.heap.size, 0, none⟩) 4 [0, 1, 2, 3] := C_lit W [0, 1, 2, 3] (by simp)
theorem al_below {G : Nat} {w w1 w2 : World} (h : Below G w w1) (hG : G ≤ w1.heap.size) (o : Obj) (h2 : Below (w1.heap.size + 1) (w1.alloc o) w2) : Below G w w2 ∧ G ≤ w2.heap.size ∧ Below w1.heap.size w1 w2 := by
  have a := h2.size
  simp at a
  have b := ((Below.refl w1.heap.size w1).alloc (Nat.le_refl _) o).trans (h2.mono (Nat.le_succ _))
  exact ⟨h.trans (b.mono hG), by omega, b⟩

set_option maxHeartbeats 4000000 in
set_option maxRecDepth 100000 in
theorem MsiImpl (x : Bool) (w : World) : Calls Try.prog 35 #[.bool x] w fun e w' => ∃ v, e = .returned v ∧ ProtoV w' (msiP (if x then 2 else 1)) v ∧ Below w.heap.size w w' := by
  cases x with
  | true =>
    go_enter Try.func35, Try.ntmps35
    go_wp2_with fail
    obtain ⟨w1, hw1⟩ : ∃ w1, w1 = w.alloc (.cells #[.slice none 0 0, .slice none 0 0, .slice none 0 0, .slice none 0 0, .slice none 0 0] 50) := ⟨_, rfl⟩
    have hgb : w1.heap[w.heap.size]? = some (.cells #[.slice none 0 0, .slice none 0 0, .slice none 0 0, .slice none 0 0, .slice none 0 0] 50 (0, 0)) := by rw [hw1]; exact heap_alloc_new w _
    have hz1 : w1.heap.size = w.heap.size + 1 := by rw [hw1]; simp
    have HW1 : Hid (Below w.heap.size w w1) := Lib.hid (by rw [hw1]; exact (Below.refl _ _).alloc (Nat.le_refl _) _)
    have HB1 : Hid (Below (w.heap.size + 1) w1 w1) := Lib.hid (Below.refl _ _)
    have HZ1 : Hid (w.heap.size + 1 ≤ w1.heap.size) := Lib.hid (by omega)
    have HGB := Lib.hid hgb
    rw [← hw1]
    clear hw1 hgb hz1
    refine (rules86 2 1 2 3 none 0 [] _ (Kd.C_nil _ _)).mono ?_
    rintro e w2 ⟨A0, a0, rfl, hR, hb⟩
    obtain ⟨b1, b2, b3⟩ : Below (w.heap.size + 1) w1 w2 ∧ w.heap.size + 1 ≤ w2.heap.size ∧ Below w1.heap.size w1 w2 := ⟨HB1.out.trans (hb.mono HZ1.out), by have := hb.size; have := HZ1.out; omega, hb⟩
    have HB2 := Lib.hid b1
    have HZ2 := Lib.hid b2
    have HR0 : Hid (Kd.R kRule 145 w2 0 (fun q => w.heap.size + 1 ≤ q) (.slice A0 4 a0) (rules [2, 1, 2, 3] [])) := Lib.hid (Kd.R_lower (Kd.R_mono hR (fun q hq => by have := HZ1.out; omega)) (Nat.zero_le _))
    clear hR hb b1 b2 b3
    go_wp2_with fail
    refine (rules86 3 3 3 3 none 0 [] _ (Kd.C_nil _ _)).mono ?_
    rintro e w3 ⟨A1, a1, rfl, hR, hb⟩
    obtain ⟨b1, b2, b3⟩ : Below (w.heap.size + 1) w1 w3 ∧ w.heap.size + 1 ≤ w3.heap.size ∧ Below w2.heap.size w2 w3 := ⟨HB2.out.trans (hb.mono HZ2.out), by have := hb.size; have := HZ2.out; omega, hb⟩
    have HB3 := Lib.hid b1
    have HZ3 := Lib.hid b2
    have HR1 : Hid (Kd.R kRule 145 w3 0 (fun q => w.heap.size + 1 ≤ q) (.slice A1 4 a1) (rules [3, 3, 3, 3] [])) := Lib.hid (Kd.R_lower (Kd.R_mono hR (fun q hq => by have := HZ2.out; omega)) (Nat.zero_le _))
    have HR0 := Lib.hid (Kd.R_below HR0.out b3)
    clear hR hb b1 b2 b3
    go_wp2_with fail
    refine (rules86 0 0 0 0 _ 1 [3] _ (C_lit3 _)).mono ?_
    rintro e w4 ⟨A2, a2, rfl, hR, hb⟩
    simp only [World.size_alloc] at hb hR
    obtain ⟨b1, b2, b3⟩ := al_below HB3.out HZ3.out _ hb
    have HB4 := Lib.hid b1
    have HZ4 := Lib.hid b2
    have HR2 : Hid (Kd.R kRule 145 w4 0 (fun q => w.heap.size + 1 ≤ q) (.slice A2 4 a2) (rules [0, 0, 0, 0] [3])) := Lib.hid (Kd.R_lower (Kd.R_mono hR (fun q hq => by have := HZ3.out; omega)) (Nat.zero_le _))
    have HR0 := Lib.hid (Kd.R_below HR0.out b3)
    have HR1 := Lib.hid (Kd.R_below HR1.out b3)
    clear hR hb b1 b2 b3
    go_wp2_with fail
    refine (rules86 0 1 1 1 _ 1 [3] _ (C_lit3 _)).mono ?_
    rintro e w5 ⟨A3, a3, rfl, hR, hb⟩
    simp only [World.size_alloc] at hb hR
    obtain ⟨b1, b2, b3⟩ := al_below HB4.out HZ4.out _ hb
    have HB5 := Lib.hid b1
    have HZ5 := Lib.hid b2
    have HR3 : Hid (Kd.R kRule 145 w5 0 (fun q => w.heap.size + 1 ≤ q) (.slice A3 4 a3) (rules [0, 1, 1, 1] [3])) := Lib.hid (Kd.R_lower (Kd.R_mono hR (fun q hq => by have := HZ4.out; omega)) (Nat.zero_le _))
    have HR0 := Lib.hid (Kd.R_below HR0.out b3)
    have HR1 := Lib.hid (Kd.R_below HR1.out b3)
    have HR2 := Lib.hid (Kd.R_below HR2.out b3)
    clear hR hb b1 b2 b3
    go_wp2_with fail
    refine (rules86 0 0 0 0 _ 1 [3] _ (C_lit3 _)).mono ?_
    rintro e w6 ⟨A4, a4, rfl, hR, hb⟩
    simp only [World.size_alloc] at hb hR
    obtain ⟨b1, b2, b3⟩ := al_below HB5.out HZ5.out _ hb
    have HB6 := Lib.hid b1
    have HZ6 := Lib.hid b2
    have HR4 : Hid (Kd.R kRule 145 w6 0 (fun q => w.heap.size + 1 ≤ q) (.slice A4 4 a4) (rules [0, 0, 0, 0] [3])) := Lib.hid (Kd.R_lower (Kd.R_mono hR (fun q hq => by have := HZ5.out; omega)) (Nat.zero_le _))
    have HR0 := Lib.hid (Kd.R_below HR0.out b3)
    have HR1 := Lib.hid (Kd.R_below HR1.out b3)
    have HR2 := Lib.hid (Kd.R_below HR2.out b3)
    have HR3 := Lib.hid (Kd.R_below HR3.out b3)
    clear hR hb b1 b2 b3
    have hr := (HB6.out.block w.heap.size (by omega)).trans HGB.out
    have q0 := cell_blk hr 0 _ rfl
    have q0f := Lib.frozen_of_heap hr 0
    have q1 := cell_blk hr 1 _ rfl
    have q1f := Lib.frozen_of_heap hr 1
    have q2 := cell_blk hr 2 _ rfl
    have q2f := Lib.frozen_of_heap hr 2
    have q3 := cell_blk hr 3 _ rfl
    have q3f := Lib.frozen_of_heap hr 3
    have q4 := cell_blk hr 4 _ rfl
    have q4f := Lib.frozen_of_heap hr 4
    clear hr
    go_wp2
    have hm : ∀ k, w.heap.size + 1 ≤ k → (((((w6.setCell ⟨w.heap.size, 0, none⟩ (.slice A0 4 a0)).setCell ⟨w.heap.size, 1, none⟩ (.slice A1 4 a1)).setCell ⟨w.heap.size, 2, none⟩ (.slice A2 4 a2)).setCell ⟨w.heap.size, 3, none⟩ (.slice A3 4 a3)).setCell ⟨w.heap.size, 4, none⟩ (.slice A4 4 a4)).heap[k]? = w6.heap[k]? := fun k hk => by rw [Below.heap_setCell _ _ _ _ (by simp; omega), Below.heap_setCell _ _ _ _ (by simp; omega), Below.heap_setCell _ _ _ _ (by simp; omega), Below.heap_setCell _ _ _ _ (by simp; omega), Below.heap_setCell _ _ _ _ (by simp; omega)]
    refine bodyPost_ret (v := .agg #[.slice A0 4 a0, .slice A1 4 a1, .slice A2 4 a2, .slice A3 4 a3, .slice A4 4 a4]) (by simp [results, Try.results35, go_sem, q0, q1, q2, q3, q4]) rfl ⟨_, rfl, proto_mk (Kd.R_move HR0.out hm) (Kd.R_move HR1.out hm) (Kd.R_move HR2.out hm) (Kd.R_move HR3.out hm) (Kd.R_move HR4.out hm), ?_⟩
    exact below_set5 (HW1.out.trans (HB6.out.mono (by omega))) (Nat.le_refl _) _ _ _ _ _
  | false =>
    go_enter Try.func35, Try.ntmps35
    go_wp2_with fail
    obtain ⟨w1, hw1⟩ : ∃ w1, w1 = w.alloc (.cells #[.slice none 0 0, .slice none 0 0, .slice none 0 0, .slice none 0 0, .slice none 0 0] 50) := ⟨_, rfl⟩
    have hgb : w1.heap[w.heap.size]? = some (.cells #[.slice none 0 0, .slice none 0 0, .slice none 0 0, .slice none 0 0, .slice none 0 0] 50 (0, 0)) := by rw [hw1]; exact heap_alloc_new w _
    have hz1 : w1.heap.size = w.heap.size + 1 := by rw [hw1]; simp
    have HW1 : Hid (Below w.heap.size w w1) := Lib.hid (by rw [hw1]; exact (Below.refl _ _).alloc (Nat.le_refl _) _)
    have HB1 : Hid (Below (w.heap.size + 1) w1 w1) := Lib.hid (Below.refl _ _)
    have HZ1 : Hid (w.heap.size + 1 ≤ w1.heap.size) := Lib.hid (by omega)
    have HGB := Lib.hid hgb
    rw [← hw1]
    clear hw1 hgb hz1
    refine (rules86 1 1 2 3 none 0 [] _ (Kd.C_nil _ _)).mono ?_
    rintro e w2 ⟨A0, a0, rfl, hR, hb⟩
    obtain ⟨b1, b2, b3⟩ : Below (w.heap.size + 1) w1 w2 ∧ w.heap.size + 1 ≤ w2.heap.size ∧ Below w1.heap.size w1 w2 := ⟨HB1.out.trans (hb.mono HZ1.out), by have := hb.size; have := HZ1.out; omega, hb⟩
    have HB2 := Lib.hid b1
    have HZ2 := Lib.hid b2
    have HR0 : Hid (Kd.R kRule 145 w2 0 (fun q => w.heap.size + 1 ≤ q) (.slice A0 4 a0) (rules [1, 1, 2, 3] [])) := Lib.hid (Kd.R_lower (Kd.R_mono hR (fun q hq => by have := HZ1.out; omega)) (Nat.zero_le _))
    clear hR hb b1 b2 b3
    go_wp2_with fail
    refine (rules86 3 3 3 3 none 0 [] _ (Kd.C_nil _ _)).mono ?_
    rintro e w3 ⟨A1, a1, rfl, hR, hb⟩
    obtain ⟨b1, b2, b3⟩ : Below (w.heap.size + 1) w1 w3 ∧ w.heap.size + 1 ≤ w3.heap.size ∧ Below w2.heap.size w2 w3 := ⟨HB2.out.trans (hb.mono HZ2.out), by have := hb.size; have := HZ2.out; omega, hb⟩
    have HB3 := Lib.hid b1
    have HZ3 := Lib.hid b2
    have HR1 : Hid (Kd.R kRule 145 w3 0 (fun q => w.heap.size + 1 ≤ q) (.slice A1 4 a1) (rules [3, 3, 3, 3] [])) := Lib.hid (Kd.R_lower (Kd.R_mono hR (fun q hq => by have := HZ2.out; omega)) (Nat.zero_le _))
    have HR0 := Lib.hid (Kd.R_below HR0.out b3)
    clear hR hb b1 b2 b3
    go_wp2_with fail
    refine (rules86 0 0 0 0 _ 1 [3] _ (C_lit3 _)).mono ?_
    rintro e w4 ⟨A2, a2, rfl, hR, hb⟩
    simp only [World.size_alloc] at hb hR
    obtain ⟨b1, b2, b3⟩ := al_below HB3.out HZ3.out _ hb
    have HB4 := Lib.hid b1
    have HZ4 := Lib.hid b2
    have HR2 : Hid (Kd.R kRule 145 w4 0 (fun q => w.heap.size + 1 ≤ q) (.slice A2 4 a2) (rules [0, 0, 0, 0] [3])) := Lib.hid (Kd.R_lower (Kd.R_mono hR (fun q hq => by have := HZ3.out; omega)) (Nat.zero_le _))
    have HR0 := Lib.hid (Kd.R_below HR0.out b3)
    have HR1 := Lib.hid (Kd.R_below HR1.out b3)
    clear hR hb b1 b2 b3
    go_wp2_with fail
    refine (rules86 0 1 1 1 _ 1 [3] _ (C_lit3 _)).mono ?_
    rintro e w5 ⟨A3, a3, rfl, hR, hb⟩
    simp only [World.size_alloc] at hb hR
    obtain ⟨b1, b2, b3⟩ := al_below HB4.out HZ4.out _ hb
    have HB5 := Lib.hid b1
    have HZ5 := Lib.hid b2
    have HR3 : Hid (Kd.R kRule 145 w5 0 (fun q => w.heap.size + 1 ≤ q) (.slice A3 4 a3) (rules [0, 1, 1, 1] [3])) := Lib.hid (Kd.R_lower (Kd.R_mono hR (fun q hq => by have := HZ4.out; omega)) (Nat.zero_le _))
    have HR0 := Lib.hid (Kd.R_below HR0.out b3)
    have HR1 := Lib.hid (Kd.R_below HR1.out b3)
    have HR2 := Lib.hid (Kd.R_below HR2.out b3)
    clear hR hb b1 b2 b3
    go_wp2_with fail
    refine (rules86 0 0 0 0 _ 1 [3] _ (C_lit3 _)).mono ?_
    rintro e w6 ⟨A4, a4, rfl, hR, hb⟩
    simp only [World.size_alloc] at hb hR
    obtain ⟨b1, b2, b3⟩ := al_below HB5.out HZ5.out _ hb
    have HB6 := Lib.hid b1
    have HZ6 := Lib.hid b2
    have HR4 : Hid (Kd.R kRule 145 w6 0 (fun q => w.heap.size + 1 ≤ q) (.slice A4 4 a4) (rules [0, 0, 0, 0] [3])) := Lib.hid (Kd.R_lower (Kd.R_mono hR (fun q hq => by have := HZ5.out; omega)) (Nat.zero_le _))
    have HR0 := Lib.hid (Kd.R_below HR0.out b3)
    have HR1 := Lib.hid (Kd.R_below HR1.out b3)
    have HR2 := Lib.hid (Kd.R_below HR2.out b3)
    have HR3 := Lib.hid (Kd.R_below HR3.out b3)
    clear hR hb b1 b2 b3
    have hr := (HB6.out.block w.heap.size (by omega)).trans HGB.out
    have q0 := cell_blk hr 0 _ rfl
    have q0f := Lib.frozen_of_heap hr 0
    have q1 := cell_blk hr 1 _ rfl
    have q1f := Lib.frozen_of_heap hr 1
    have q2 := cell_blk hr 2 _ rfl
    have q2f := Lib.frozen_of_heap hr 2
    have q3 := cell_blk hr 3 _ rfl
    have q3f := Lib.frozen_of_heap hr 3
    have q4 := cell_blk hr 4 _ rfl
    have q4f := Lib.frozen_of_heap hr 4
    clear hr
    go_wp2
    have hm : ∀ k, w.heap.size + 1 ≤ k → (((((w6.setCell ⟨w.heap.size, 0, none⟩ (.slice A0 4 a0)).setCell ⟨w.heap.size, 1, none⟩ (.slice A1 4 a1)).setCell ⟨w.heap.size, 2, none⟩ (.slice A2 4 a2)).setCell ⟨w.heap.size, 3, none⟩ (.slice A3 4 a3)).setCell ⟨w.heap.size, 4, none⟩ (.slice A4 4 a4)).heap[k]? = w6.heap[k]? := fun k hk => by rw [Below.heap_setCell _ _ _ _ (by simp; omega), Below.heap_setCell _ _ _ _ (by simp; omega), Below.heap_setCell _ _ _ _ (by simp; omega), Below.heap_setCell _ _ _ _ (by simp; omega), Below.heap_setCell _ _ _ _ (by simp; omega)]
    refine bodyPost_ret (v := .agg #[.slice A0 4 a0, .slice A1 4 a1, .slice A2 4 a2, .slice A3 4 a3, .slice A4 4 a4]) (by simp [results, Try.results35, go_sem, q0, q1, q2, q3, q4]) rfl ⟨_, rfl, proto_mk (Kd.R_move HR0.out hm) (Kd.R_move HR1.out hm) (Kd.R_move HR2.out hm) (Kd.R_move HR3.out hm) (Kd.R_move HR4.out hm), ?_⟩
    exact below_set5 (HW1.out.trans (HB6.out.mono (by omega))) (Nat.le_refl _) _ _ _ _ _
set_option maxHeartbeats 4000000 in
set_option maxRecDepth 100000 in
theorem ThroughImpl (x : Bool) (w : World) : Calls Try.prog 36 #[.bool x] w fun e w' => ∃ v, e = .returned v ∧ ProtoV w' (thrP (if x then 1 else 0)) v ∧ Below w.heap.size w w' := by
  cases x with
  | true =>
    go_enter Try.func36, Try.ntmps36
    go_wp2_with fail
    obtain ⟨w1, hw1⟩ : ∃ w1, w1 = w.alloc (.cells #[.slice none 0 0, .slice none 0 0, .slice none 0 0, .slice none 0 0, .slice none 0 0] 50) := ⟨_, rfl⟩
    have hgb : w1.heap[w.heap.size]? = some (.cells #[.slice none 0 0, .slice none 0 0, .slice none 0 0, .slice none 0 0, .slice none 0 0] 50 (0, 0)) := by rw [hw1]; exact heap_alloc_new w _
    have hz1 : w1.heap.size = w.heap.size + 1 := by rw [hw1]; simp
    have HW1 : Hid (Below w.heap.size w w1) := Lib.hid (by rw [hw1]; exact (Below.refl _ _).alloc (Nat.le_refl _) _)
    have HB1 : Hid (Below (w.heap.size + 1) w1 w1) := Lib.hid (Below.refl _ _)
    have HZ1 : Hid (w.heap.size + 1 ≤ w1.heap.size) := Lib.hid (by omega)
    have HGB := Lib.hid hgb
    rw [← hw1]
    clear hw1 hgb hz1
    refine (rules86 1 1 1 1 none 0 [] _ (Kd.C_nil _ _)).mono ?_
    rintro e w2 ⟨A0, a0, rfl, hR, hb⟩
    obtain ⟨b1, b2, b3⟩ : Below (w.heap.size + 1) w1 w2 ∧ w.heap.size + 1 ≤ w2.heap.size ∧ Below w1.heap.size w1 w2 := ⟨HB1.out.trans (hb.mono HZ1.out), by have := hb.size; have := HZ1.out; omega, hb⟩
    have HB2 := Lib.hid b1
    have HZ2 := Lib.hid b2
    have HR0 : Hid (Kd.R kRule 145 w2 0 (fun q => w.heap.size + 1 ≤ q) (.slice A0 4 a0) (rules [1, 1, 1, 1] [])) := Lib.hid (Kd.R_lower (Kd.R_mono hR (fun q hq => by have := HZ1.out; omega)) (Nat.zero_le _))
    clear hR hb b1 b2 b3
    go_wp2_with fail
    refine (rules86 1 1 1 1 _ 4 [0, 1, 2, 3] _ (C_lit0123 _)).mono ?_
    rintro e w3 ⟨A1, a1, rfl, hR, hb⟩
    simp only [World.size_alloc] at hb hR
    obtain ⟨b1, b2, b3⟩ := al_below HB2.out HZ2.out _ hb
    have HB3 := Lib.hid b1
    have HZ3 := Lib.hid b2
    have HR1 : Hid (Kd.R kRule 145 w3 0 (fun q => w.heap.size + 1 ≤ q) (.slice A1 4 a1) (rules [1, 1, 1, 1] [0, 1, 2, 3])) := Lib.hid (Kd.R_lower (Kd.R_mono hR (fun q hq => by have := HZ2.out; omega)) (Nat.zero_le _))
    have HR0 := Lib.hid (Kd.R_below HR0.out b3)
    clear hR hb b1 b2 b3
    go_wp2_with fail
    refine (rules86 0 0 0 0 none 0 [] _ (Kd.C_nil _ _)).mono ?_
    rintro e w4 ⟨A2, a2, rfl, hR, hb⟩
    obtain ⟨b1, b2, b3⟩ : Below (w.heap.size + 1) w1 w4 ∧ w.heap.size + 1 ≤ w4.heap.size ∧ Below w3.heap.size w3 w4 := ⟨HB3.out.trans (hb.mono HZ3.out), by have := hb.size; have := HZ3.out; omega, hb⟩
    have HB4 := Lib.hid b1
    have HZ4 := Lib.hid b2
    have HR2 : Hid (Kd.R kRule 145 w4 0 (fun q => w.heap.size + 1 ≤ q) (.slice A2 4 a2) (rules [0, 0, 0, 0] [])) := Lib.hid (Kd.R_lower (Kd.R_mono hR (fun q hq => by have := HZ3.out; omega)) (Nat.zero_le _))
    have HR0 := Lib.hid (Kd.R_below HR0.out b3)
    have HR1 := Lib.hid (Kd.R_below HR1.out b3)
    clear hR hb b1 b2 b3
    go_wp2_with fail
    refine (rules86 0 1 1 1 none 0 [] _ (Kd.C_nil _ _)).mono ?_
    rintro e w5 ⟨A3, a3, rfl, hR, hb⟩
    obtain ⟨b1, b2, b3⟩ : Below (w.heap.size + 1) w1 w5 ∧ w.heap.size + 1 ≤ w5.heap.size ∧ Below w4.heap.size w4 w5 := ⟨HB4.out.trans (hb.mono HZ4.out), by have := hb.size; have := HZ4.out; omega, hb⟩
    have HB5 := Lib.hid b1
    have HZ5 := Lib.hid b2
    have HR3 : Hid (Kd.R kRule 145 w5 0 (fun q => w.heap.size + 1 ≤ q) (.slice A3 4 a3) (rules [0, 1, 1, 1] [])) := Lib.hid (Kd.R_lower (Kd.R_mono hR (fun q hq => by have := HZ4.out; omega)) (Nat.zero_le _))
    have HR0 := Lib.hid (Kd.R_below HR0.out b3)
    have HR1 := Lib.hid (Kd.R_below HR1.out b3)
    have HR2 := Lib.hid (Kd.R_below HR2.out b3)
    clear hR hb b1 b2 b3
    go_wp2_with fail
    refine (rules86 0 0 0 0 none 0 [] _ (Kd.C_nil _ _)).mono ?_
    rintro e w6 ⟨A4, a4, rfl, hR, hb⟩
    obtain ⟨b1, b2, b3⟩ : Below (w.heap.size + 1) w1 w6 ∧ w.heap.size + 1 ≤ w6.heap.size ∧ Below w5.heap.size w5 w6 := ⟨HB5.out.trans (hb.mono HZ5.out), by have := hb.size; have := HZ5.out; omega, hb⟩
    have HB6 := Lib.hid b1
    have HZ6 := Lib.hid b2
    have HR4 : Hid (Kd.R kRule 145 w6 0 (fun q => w.heap.size + 1 ≤ q) (.slice A4 4 a4) (rules [0, 0, 0, 0] [])) := Lib.hid (Kd.R_lower (Kd.R_mono hR (fun q hq => by have := HZ5.out; omega)) (Nat.zero_le _))
    have HR0 := Lib.hid (Kd.R_below HR0.out b3)
    have HR1 := Lib.hid (Kd.R_below HR1.out b3)
    have HR2 := Lib.hid (Kd.R_below HR2.out b3)
    have HR3 := Lib.hid (Kd.R_below HR3.out b3)
    clear hR hb b1 b2 b3
    have hr := (HB6.out.block w.heap.size (by omega)).trans HGB.out
    have q0 := cell_blk hr 0 _ rfl
    have q0f := Lib.frozen_of_heap hr 0
    have q1 := cell_blk hr 1 _ rfl
    have q1f := Lib.frozen_of_heap hr 1
    have q2 := cell_blk hr 2 _ rfl
    have q2f := Lib.frozen_of_heap hr 2
    have q3 := cell_blk hr 3 _ rfl
    have q3f := Lib.frozen_of_heap hr 3
    have q4 := cell_blk hr 4 _ rfl
    have q4f := Lib.frozen_of_heap hr 4
    clear hr
    go_wp2
    have hm : ∀ k, w.heap.size + 1 ≤ k → (((((w6.setCell ⟨w.heap.size, 0, none⟩ (.slice A0 4 a0)).setCell ⟨w.heap.size, 1, none⟩ (.slice A1 4 a1)).setCell ⟨w.heap.size, 2, none⟩ (.slice A2 4 a2)).setCell ⟨w.heap.size, 3, none⟩ (.slice A3 4 a3)).setCell ⟨w.heap.size, 4, none⟩ (.slice A4 4 a4)).heap[k]? = w6.heap[k]? := fun k hk => by rw [Below.heap_setCell _ _ _ _ (by simp; omega), Below.heap_setCell _ _ _ _ (by simp; omega), Below.heap_setCell _ _ _ _ (by simp; omega), Below.heap_setCell _ _ _ _ (by simp; omega), Below.heap_setCell _ _ _ _ (by simp; omega)]
    refine bodyPost_ret (v := .agg #[.slice A0 4 a0, .slice A1 4 a1, .slice A2 4 a2, .slice A3 4 a3, .slice A4 4 a4]) (by simp [results, Try.results36, go_sem, q0, q1, q2, q3, q4]) rfl ⟨_, rfl, proto_mk (Kd.R_move HR0.out hm) (Kd.R_move HR1.out hm) (Kd.R_move HR2.out hm) (Kd.R_move HR3.out hm) (Kd.R_move HR4.out hm), ?_⟩
    exact below_set5 (HW1.out.trans (HB6.out.mono (by omega))) (Nat.le_refl _) _ _ _ _ _
  | false =>
    go_enter Try.func36, Try.ntmps36
    go_wp2_with fail
    obtain ⟨w1, hw1⟩ : ∃ w1, w1 = w.alloc (.cells #[.slice none 0 0, .slice none 0 0, .slice none 0 0, .slice none 0 0, .slice none 0 0] 50) := ⟨_, rfl⟩
    have hgb : w1.heap[w.heap.size]? = some (.cells #[.slice none 0 0, .slice none 0 0, .slice none 0 0, .slice none 0 0, .slice none 0 0] 50 (0, 0)) := by rw [hw1]; exact heap_alloc_new w _
    have hz1 : w1.heap.size = w.heap.size + 1 := by rw [hw1]; simp
    have HW1 : Hid (Below w.heap.size w w1) := Lib.hid (by rw [hw1]; exact (Below.refl _ _).alloc (Nat.le_refl _) _)
    have HB1 : Hid (Below (w.heap.size + 1) w1 w1) := Lib.hid (Below.refl _ _)
    have HZ1 : Hid (w.heap.size + 1 ≤ w1.heap.size) := Lib.hid (by omega)
    have HGB := Lib.hid hgb
    rw [← hw1]
    clear hw1 hgb hz1
    refine (rules86 1 1 1 1 none 0 [] _ (Kd.C_nil _ _)).mono ?_
    rintro e w2 ⟨A0, a0, rfl, hR, hb⟩
    obtain ⟨b1, b2, b3⟩ : Below (w.heap.size + 1) w1 w2 ∧ w.heap.size + 1 ≤ w2.heap.size ∧ Below w1.heap.size w1 w2 := ⟨HB1.out.trans (hb.mono HZ1.out), by have := hb.size; have := HZ1.out; omega, hb⟩
    have HB2 := Lib.hid b1
    have HZ2 := Lib.hid b2
    have HR0 : Hid (Kd.R kRule 145 w2 0 (fun q => w.heap.size + 1 ≤ q) (.slice A0 4 a0) (rules [1, 1, 1, 1] [])) := Lib.hid (Kd.R_lower (Kd.R_mono hR (fun q hq => by have := HZ1.out; omega)) (Nat.zero_le _))
    clear hR hb b1 b2 b3
    go_wp2_with fail
    refine (rules86 0 1 1 1 _ 4 [0, 1, 2, 3] _ (C_lit0123 _)).mono ?_
    rintro e w3 ⟨A1, a1, rfl, hR, hb⟩
    simp only [World.size_alloc] at hb hR
    obtain ⟨b1, b2, b3⟩ := al_below HB2.out HZ2.out _ hb
    have HB3 := Lib.hid b1
    have HZ3 := Lib.hid b2
    have HR1 : Hid (Kd.R kRule 145 w3 0 (fun q => w.heap.size + 1 ≤ q) (.slice A1 4 a1) (rules [0, 1, 1, 1] [0, 1, 2, 3])) := Lib.hid (Kd.R_lower (Kd.R_mono hR (fun q hq => by have := HZ2.out; omega)) (Nat.zero_le _))
    have HR0 := Lib.hid (Kd.R_below HR0.out b3)
    clear hR hb b1 b2 b3
    go_wp2_with fail
    refine (rules86 0 0 0 0 none 0 [] _ (Kd.C_nil _ _)).mono ?_
    rintro e w4 ⟨A2, a2, rfl, hR, hb⟩
    obtain ⟨b1, b2, b3⟩ : Below (w.heap.size + 1) w1 w4 ∧ w.heap.size + 1 ≤ w4.heap.size ∧ Below w3.heap.size w3 w4 := ⟨HB3.out.trans (hb.mono HZ3.out), by have := hb.size; have := HZ3.out; omega, hb⟩
    have HB4 := Lib.hid b1
    have HZ4 := Lib.hid b2
    have HR2 : Hid (Kd.R kRule 145 w4 0 (fun q => w.heap.size + 1 ≤ q) (.slice A2 4 a2) (rules [0, 0, 0, 0] [])) := Lib.hid (Kd.R_lower (Kd.R_mono hR (fun q hq => by have := HZ3.out; omega)) (Nat.zero_le _))
    have HR0 := Lib.hid (Kd.R_below HR0.out b3)
    have HR1 := Lib.hid (Kd.R_below HR1.out b3)
    clear hR hb b1 b2 b3
    go_wp2_with fail
    refine (rules86 0 1 1 1 none 0 [] _ (Kd.C_nil _ _)).mono ?_
    rintro e w5 ⟨A3, a3, rfl, hR, hb⟩
    obtain ⟨b1, b2, b3⟩ : Below (w.heap.size + 1) w1 w5 ∧ w.heap.size + 1 ≤ w5.heap.size ∧ Below w4.heap.size w4 w5 := ⟨HB4.out.trans (hb.mono HZ4.out), by have := hb.size; have := HZ4.out; omega, hb⟩
    have HB5 := Lib.hid b1
    have HZ5 := Lib.hid b2
    have HR3 : Hid (Kd.R kRule 145 w5 0 (fun q => w.heap.size + 1 ≤ q) (.slice A3 4 a3) (rules [0, 1, 1, 1] [])) := Lib.hid (Kd.R_lower (Kd.R_mono hR (fun q hq => by have := HZ4.out; omega)) (Nat.zero_le _))
    have HR0 := Lib.hid (Kd.R_below HR0.out b3)
    have HR1 := Lib.hid (Kd.R_below HR1.out b3)
    have HR2 := Lib.hid (Kd.R_below HR2.out b3)
    clear hR hb b1 b2 b3
    go_wp2_with fail
    refine (rules86 0 0 0 0 none 0 [] _ (Kd.C_nil _ _)).mono ?_
    rintro e w6 ⟨A4, a4, rfl, hR, hb⟩
    obtain ⟨b1, b2, b3⟩ : Below (w.heap.size + 1) w1 w6 ∧ w.heap.size + 1 ≤ w6.heap.size ∧ Below w5.heap.size w5 w6 := ⟨HB5.out.trans (hb.mono HZ5.out), by have := hb.size; have := HZ5.out; omega, hb⟩
    have HB6 := Lib.hid b1
    have HZ6 := Lib.hid b2
    have HR4 : Hid (Kd.R kRule 145 w6 0 (fun q => w.heap.size + 1 ≤ q) (.slice A4 4 a4) (rules [0, 0, 0, 0] [])) := Lib.hid (Kd.R_lower (Kd.R_mono hR (fun q hq => by have := HZ5.out; omega)) (Nat.zero_le _))
    have HR0 := Lib.hid (Kd.R_below HR0.out b3)
    have HR1 := Lib.hid (Kd.R_below HR1.out b3)
    have HR2 := Lib.hid (Kd.R_below HR2.out b3)
    have HR3 := Lib.hid (Kd.R_below HR3.out b3)
    clear hR hb b1 b2 b3
    have hr := (HB6.out.block w.heap.size (by omega)).trans HGB.out
    have q0 := cell_blk hr 0 _ rfl
    have q0f := Lib.frozen_of_heap hr 0
    have q1 := cell_blk hr 1 _ rfl
    have q1f := Lib.frozen_of_heap hr 1
    have q2 := cell_blk hr 2 _ rfl
    have q2f := Lib.frozen_of_heap hr 2
    have q3 := cell_blk hr 3 _ rfl
    have q3f := Lib.frozen_of_heap hr 3
    have q4 := cell_blk hr 4 _ rfl
    have q4f := Lib.frozen_of_heap hr 4
    clear hr
    go_wp2
    have hm : ∀ k, w.heap.size + 1 ≤ k → (((((w6.setCell ⟨w.heap.size, 0, none⟩ (.slice A0 4 a0)).setCell ⟨w.heap.size, 1, none⟩ (.slice A1 4 a1)).setCell ⟨w.heap.size, 2, none⟩ (.slice A2 4 a2)).setCell ⟨w.heap.size, 3, none⟩ (.slice A3 4 a3)).setCell ⟨w.heap.size, 4, none⟩ (.slice A4 4 a4)).heap[k]? = w6.heap[k]? := fun k hk => by rw [Below.heap_setCell _ _ _ _ (by simp; omega), Below.heap_setCell _ _ _ _ (by simp; omega), Below.heap_setCell _ _ _ _ (by simp; omega), Below.heap_setCell _ _ _ _ (by simp; omega), Below.heap_setCell _ _ _ _ (by simp; omega)]
    refine bodyPost_ret (v := .agg #[.slice A0 4 a0, .slice A1 4 a1, .slice A2 4 a2, .slice A3 4 a3, .slice A4 4 a4]) (by simp [results, Try.results36, go_sem, q0, q1, q2, q3, q4]) rfl ⟨_, rfl, proto_mk (Kd.R_move HR0.out hm) (Kd.R_move HR1.out hm) (Kd.R_move HR2.out hm) (Kd.R_move HR3.out hm) (Kd.R_move HR4.out hm), ?_⟩
    exact below_set5 (HW1.out.trans (HB6.out.mono (by omega))) (Nat.le_refl _) _ _ _ _ _
end Go.Proofs.Ytfeabjiccnnpcaa.Ca
