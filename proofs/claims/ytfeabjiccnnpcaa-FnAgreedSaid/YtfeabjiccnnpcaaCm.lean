import Derived.Test.YtfeabjiccnnpcaaCl
set_option linter.unusedVariables false
set_option linter.unusedSimpArgs false
namespace Go.Proofs.Ytfeabjiccnnpcaa.Ca
open Go.RowKit Go.Proofs.YtfeabjiccnnpcaaW.PrintWords Go.Proofs.YtfeabjiccnnpcaaW.PrintLast Go.Proofs.Ytfeabjiccnnpcaa.Ba

/-- a system's value whose rows lie in blocks that are ok -/
def SysR (w : World) (ok : Nat → Prop) (n : Nat) (x : Sys) (v : Value) : Prop := ∃ a b ca cb, v = .agg #[.slice (some ⟨a, 0, none⟩) n ca, .slice (some ⟨b, 0, none⟩) n cb, .bool x.m] ∧
  (Kd.int .i64).R 2 w 0 ok (.slice (some ⟨a, 0, none⟩) n ca) x.cs ∧ Kd.bool.R 4 w 0 ok (.slice (some ⟨b, 0, none⟩) n cb) x.fs
set_option maxHeartbeats 4000000 in
set_option maxRecDepth 100000 in
theorem StepSystem (p : Proto) (v : Value) (A B : Option Addr) (n c d : Nat) (x : Sys) (o : Op) (w : World) (hv : ProtoV w p v) (hp : validP p = true) (h0 : 0 < n) (hn : n ≤ 3) (hx : x.Ok n) (hA : Kd.C (Kd.int .i64) w A n x.cs) (hB : Kd.C Kd.bool w B n x.fs) (ho : okOp o n = true) :
    Calls Try.prog 46 #[v, .agg #[.slice A n c, .slice B n d, .bool x.m], .agg #[.int .i64 o.kind, .int .i64 o.cache]] w fun e w' => ∃ sv, e = .returned (.tuple #[sv, .bool (stepS p x o).2.1, .bool true]) ∧ SysR w' (fun k => w.heap.size ≤ k) n (stepS p x o).1 sv ∧ Below w.heap.size w w' := by
  have HV := Lib.hid hv
  have HA := Lib.hid hA
  have HB := Lib.hid hB
  have HO := Lib.hid ho
  have HP := Lib.hid hp
  have HX := Lib.hid hx
  obtain ⟨A0, c0, A1, c1, A2, c2, A3, c3, A4, c4, rfl, _⟩ := hv
  obtain ⟨w1, hw1⟩ : ∃ w1, w1 = (((w.alloc (.cells #[.slice A0 p.rd.length c0, .slice A1 p.wr.length c1, .slice A2 p.ev.length c2, .slice A3 p.sr.length c3, .slice A4 p.sw.length c4] 50)).alloc (.cells #[.slice A n c, .slice B n d, .bool x.m] 60)).alloc (.cells #[.int .i64 o.kind, .int .i64 o.cache] 72)).alloc (.cells #[.slice none 0 0, .slice none 0 0, .bool false] 60) := ⟨_, rfl⟩
  have hbw : Below w.heap.size w w1 := by
    rw [hw1]
    exact ((((Below.refl _ _).alloc (Nat.le_refl _) _).alloc (by simp) _).alloc (by simp; omega) _).alloc (by simp; omega) _
  have hs1 : w1.heap.size = w.heap.size + 4 := by rw [hw1]; simp
  have hx0 : w1.heap[w.heap.size]? = some (.cells #[.slice A0 p.rd.length c0, .slice A1 p.wr.length c1, .slice A2 p.ev.length c2, .slice A3 p.sr.length c3, .slice A4 p.sw.length c4] 50 (0, 0)) := by
    rw [hw1, Below.heap_alloc _ _ _ (by simp; omega), Below.heap_alloc _ _ _ (by simp; omega), Below.heap_alloc _ _ _ (by simp)]; exact heap_alloc_new w _
  have hx1 : w1.heap[w.heap.size + 1]? = some (.cells #[.slice A n c, .slice B n d, .bool x.m] 60 (0, 0)) := by
    rw [hw1, Below.heap_alloc _ _ _ (by simp), Below.heap_alloc _ _ _ (by simp)]; simpa using heap_alloc_new (w.alloc _) _
  have hx2 : w1.heap[w.heap.size + 2]? = some (.cells #[.int .i64 o.kind, .int .i64 o.cache] 72 (0, 0)) := by
    rw [hw1, Below.heap_alloc _ _ _ (by simp)]; simpa using heap_alloc_new ((w.alloc _).alloc _) _
  have hx3 : w1.heap[w.heap.size + 3]? = some (.cells #[.slice none 0 0, .slice none 0 0, .bool false] 60 (0, 0)) := by
    rw [hw1]; simpa using heap_alloc_new (((w.alloc _).alloc _).alloc _) _
  obtain ⟨p0, p1, p2, p3, p4⟩ := box5 hx0
  have s0 := cell_blk hx1 0 _ rfl
  have s1 := cell_blk hx1 1 _ rfl
  have s2 := cell_blk hx1 2 _ rfl
  have o0 := cell_blk hx2 0 _ rfl
  have o1 := cell_blk hx2 1 _ rfl
  have HX0 := Lib.hid hx0
  have HX2 := Lib.hid hx2
  have HX3 := Lib.hid hx3
  have HBW := Lib.hid hbw
  have HS1 := Lib.hid hs1
  clear hp hx hA hB ho hx0 hx1 hx2 hx3 hbw hs1
  have HV1 := Lib.hid (HV.out.below HBW.out)
  have HA1 := Lib.hid (Kd.C_below HA.out HBW.out)
  have HB1 := Lib.hid (Kd.C_below HB.out HBW.out)
  go_enter Try.func46, Try.ntmps46
  go_wp2
  simp only [← hw1]
  refine start_ (n := 16) (S := fun w' => w'.cell? ⟨w.heap.size, 0, none⟩ = some (.slice A0 p.rd.length c0) ∧ w'.cell? ⟨w.heap.size, 1, none⟩ = some (.slice A1 p.wr.length c1) ∧ w'.cell? ⟨w.heap.size, 2, none⟩ = some (.slice A2 p.ev.length c2) ∧ w'.cell? ⟨w.heap.size, 3, none⟩ = some (.slice A3 p.sr.length c3) ∧ w'.cell? ⟨w.heap.size, 4, none⟩ = some (.slice A4 p.sw.length c4) ∧ w'.cell? ⟨w.heap.size + 1, 0, none⟩ = some (.slice A n c) ∧ w'.cell? ⟨w.heap.size + 1, 1, none⟩ = some (.slice B n d) ∧ w'.cell? ⟨w.heap.size + 1, 2, none⟩ = some (.bool x.m) ∧ w'.cell? ⟨w.heap.size + 2, 0, none⟩ = some (.int .i64 o.kind) ∧ w'.cell? ⟨w.heap.size + 2, 1, none⟩ = some (.int .i64 o.cache)) (ds := [15]) #[false, false, false, false, false, false, false, false, false, false, false, false, false, false, false, false] (by kernel_rfl) rfl rfl ⟨p0, p1, p2, p3, p4, s0, s1, s2, o0, o1⟩ (fun hHeld => ?_)
  refine take_ (i := 0) (N := some 13) (v := ?_) (a' := ?_) #[true, false, false, false, false, false, false, false, false, false, false, false, false, false, false, false] rfl rfl (by kernel_rfl) (fun _ _ _ h => h) (Or.inl ⟨by rfl, ?_⟩) hHeld ?_ ?_
  rotate_left
  · rintro w' ⟨s0, s1, s2, s3, s4, s5, s6, s7, s8, s9⟩
    go_simp
    with_reducible rfl
  rotate_left
  · simp only [Act.put, List.setIfInBounds_toArray, List.set_cons_zero, List.set_cons_succ, i64_w, i32_w]
    rfl
  refine one_ (i := 1) (N := some 14) #[true, true, false, false, false, false, false, false, false, false, false, false, false, false, false, false] rfl rfl (by kernel_rfl) (by decide) (fun K hK => ?_)
  refine goes_ Try.func43 (by kernel_rfl) rfl #[.agg #[.slice A0 p.rd.length c0, .slice A1 p.wr.length c1, .slice A2 p.ev.length c2, .slice A3 p.sr.length c3, .slice A4 p.sw.length c4]] (by rfl) rfl rfl (by simp only [List.map_toArray, List.map_cons, List.map_nil]; rfl) ?_
  with_reducible refine (ValidProtocol p _ _ (HV1.out.below ((Below.refl _ _).drew))).mono ?_
  rintro e w3 ⟨rfl, hb1⟩
  refine ⟨_, rfl, ?_⟩
  rw [HP.out]
  have Hb1 := Lib.hid hb1
  clear hb1
  refine hK.out _ _ ⟨(cell_old Hb1.out (by exact p0)), (cell_old Hb1.out (by exact p1)), (cell_old Hb1.out (by exact p2)), (cell_old Hb1.out (by exact p3)), (cell_old Hb1.out (by exact p4)), (cell_old Hb1.out (by exact s0)), (cell_old Hb1.out (by exact s1)), (cell_old Hb1.out (by exact s2)), (cell_old Hb1.out (by exact o0)), (cell_old Hb1.out (by exact o1))⟩ (fun hHeld => ?_)
  clear hK K
  refine norm_ (a' := ?_) ?_ ?_
  rotate_left
  · show Act.put _ (some 14) _ = _
    simp only [Act.put, List.setIfInBounds_toArray, List.set_cons_zero, List.set_cons_succ, i64_w, i32_w]
    rfl
  refine pure_ (i := 2) (N := some 15) (v := ?_) (a' := ?_) #[true, true, true, false, false, false, false, false, false, false, false, false, false, false, false, false] rfl rfl (by kernel_rfl) (fun _ _ _ h => h) (Or.inl ⟨by rfl, ?_⟩) ?_ ?_
  rotate_left
  · intro w'
    go_simp
    with_reducible rfl
  rotate_left
  · simp only [Act.put, List.setIfInBounds_toArray, List.set_cons_zero, List.set_cons_succ, i64_w, i32_w]
    rfl
  refine pure_ (i := 3) (N := some 16) (v := ?_) (a' := ?_) #[true, true, true, true, false, false, false, false, false, false, false, false, false, false, false, false] rfl rfl (by kernel_rfl) (fun _ _ _ h => h) (Or.inl ⟨by rfl, ?_⟩) ?_ ?_
  rotate_left
  · intro w'
    go_simp
    with_reducible rfl
  rotate_left
  · simp only [Act.put, List.setIfInBounds_toArray, List.set_cons_zero, List.set_cons_succ, i64_w, i32_w]
    rfl
  refine take_ (i := 4) (N := some 17) (v := ?_) (a' := ?_) #[true, true, true, true, true, false, false, false, false, false, false, false, false, false, false, false] rfl rfl (by kernel_rfl) (fun _ _ _ h => h) (Or.inl ⟨by rfl, ?_⟩) hHeld ?_ ?_
  rotate_left
  · rintro w' ⟨s0, s1, s2, s3, s4, s5, s6, s7, s8, s9⟩
    go_simp
    with_reducible rfl
  rotate_left
  · simp only [Act.put, List.setIfInBounds_toArray, List.set_cons_zero, List.set_cons_succ, i64_w, i32_w]
    rfl
  refine one_ (i := 5) (N := some 18) #[true, true, true, true, true, true, false, false, false, false, false, false, false, false, false, false] rfl rfl (by kernel_rfl) (by decide) (fun K hK => ?_)
  refine goes_ Try.func42 (by kernel_rfl) rfl #[.agg #[.slice A n c, .slice B n d, .bool x.m]] (by rfl) rfl rfl (by simp only [List.map_toArray, List.map_cons, List.map_nil]; rfl) ?_
  with_reducible refine (ValidSystem A B n c d x _ h0 hn HX.out (Kd.C_below (Kd.C_below HA1.out ((Below.refl _ _).drew)) Hb1.out) (Kd.C_below (Kd.C_below HB1.out ((Below.refl _ _).drew)) Hb1.out)).mono ?_
  rintro e w4 ⟨rfl, hb2⟩
  refine ⟨_, rfl, ?_⟩
  have Hb2 := Lib.hid hb2
  clear hb2
  refine hK.out _ _ ⟨(cell_old Hb2.out (cell_old Hb1.out (by exact p0))), (cell_old Hb2.out (cell_old Hb1.out (by exact p1))), (cell_old Hb2.out (cell_old Hb1.out (by exact p2))), (cell_old Hb2.out (cell_old Hb1.out (by exact p3))), (cell_old Hb2.out (cell_old Hb1.out (by exact p4))), (cell_old Hb2.out (cell_old Hb1.out (by exact s0))), (cell_old Hb2.out (cell_old Hb1.out (by exact s1))), (cell_old Hb2.out (cell_old Hb1.out (by exact s2))), (cell_old Hb2.out (cell_old Hb1.out (by exact o0))), (cell_old Hb2.out (cell_old Hb1.out (by exact o1)))⟩ (fun hHeld => ?_)
  clear hK K
  refine norm_ (a' := ?_) ?_ ?_
  rotate_left
  · show Act.put _ (some 18) _ = _
    simp only [Act.put, List.setIfInBounds_toArray, List.set_cons_zero, List.set_cons_succ, i64_w, i32_w]
    rfl
  refine pure_ (i := 6) (N := some 19) (v := ?_) (a' := ?_) #[true, true, true, true, true, true, true, false, false, false, false, false, false, false, false, false] rfl rfl (by kernel_rfl) (fun _ _ _ h => h) (Or.inl ⟨by rfl, ?_⟩) ?_ ?_
  rotate_left
  · intro w'
    go_simp
    with_reducible rfl
  rotate_left
  · simp only [Act.put, List.setIfInBounds_toArray, List.set_cons_zero, List.set_cons_succ, i64_w, i32_w]
    rfl
  refine pure_ (i := 7) (N := some 20) (v := ?_) (a' := ?_) #[true, true, true, true, true, true, true, true, false, false, false, false, false, false, false, false] rfl rfl (by kernel_rfl) (fun _ _ _ h => h) (Or.inl ⟨by rfl, ?_⟩) ?_ ?_
  rotate_left
  · intro w'
    go_simp
    with_reducible rfl
  rotate_left
  · simp only [Act.put, List.setIfInBounds_toArray, List.set_cons_zero, List.set_cons_succ, i64_w, i32_w]
    rfl
  refine pure_ (i := 8) (N := some 21) (v := ?_) (a' := ?_) #[true, true, true, true, true, true, true, true, true, false, false, false, false, false, false, false] rfl rfl (by kernel_rfl) (fun _ _ _ h => h) (Or.inl ⟨by rfl, ?_⟩) ?_ ?_
  rotate_left
  · intro w'
    go_simp
    with_reducible rfl
  rotate_left
  · simp only [Act.put, List.setIfInBounds_toArray, List.set_cons_zero, List.set_cons_succ, i64_w, i32_w]
    rfl
  refine pure_ (i := 10) (N := some 23) (v := ?_) (a' := ?_) #[true, true, true, true, true, true, true, true, true, false, true, false, false, false, false, false] rfl rfl (by kernel_rfl) (fun _ _ _ h => h) (Or.inl ⟨by rfl, ?_⟩) ?_ ?_
  rotate_left
  · intro w'
    go_simp
    with_reducible rfl
  rotate_left
  · simp only [Act.put, List.setIfInBounds_toArray, List.set_cons_zero, List.set_cons_succ, i64_w, i32_w]
    rfl
  refine take_ (i := 9) (N := some 22) (v := ?_) (a' := ?_) #[true, true, true, true, true, true, true, true, true, true, true, false, false, false, false, false] rfl rfl (by kernel_rfl) (fun _ _ _ h => h) (Or.inl ⟨by rfl, ?_⟩) hHeld ?_ ?_
  rotate_left
  · rintro w' ⟨s0, s1, s2, s3, s4, s5, s6, s7, s8, s9⟩
    go_simp
    with_reducible rfl
  rotate_left
  · simp only [Act.put, List.setIfInBounds_toArray, List.set_cons_zero, List.set_cons_succ, i64_w, i32_w]
    rfl
  refine take_ (i := 11) (N := some 24) (v := ?_) (a' := ?_) #[true, true, true, true, true, true, true, true, true, true, true, true, false, false, false, false] rfl rfl (by kernel_rfl) (fun _ _ _ h => h) (Or.inl ⟨by rfl, ?_⟩) hHeld ?_ ?_
  rotate_left
  · rintro w' ⟨s0, s1, s2, s3, s4, s5, s6, s7, s8, s9⟩
    go_simp
    with_reducible rfl
  rotate_left
  · simp only [Act.put, List.setIfInBounds_toArray, List.set_cons_zero, List.set_cons_succ, i64_w, i32_w]
    rfl
  refine one_ (i := 12) (N := some 25) #[true, true, true, true, true, true, true, true, true, true, true, true, true, false, false, false] rfl rfl (by kernel_rfl) (by decide) (fun K hK => ?_)
  refine goes_ Try.func79 (by kernel_rfl) rfl #[.slice A n c] (by rfl) rfl rfl (by simp only [List.map_toArray, List.map_cons, List.map_nil]; rfl) ?_
  with_reducible refine (length79 A n c _ (by omega)).mono ?_
  rintro e w5 ⟨rfl, rfl⟩
  refine ⟨_, rfl, ?_⟩
  refine hK.out _ _ ⟨(cell_old Hb2.out (cell_old Hb1.out (by exact p0))), (cell_old Hb2.out (cell_old Hb1.out (by exact p1))), (cell_old Hb2.out (cell_old Hb1.out (by exact p2))), (cell_old Hb2.out (cell_old Hb1.out (by exact p3))), (cell_old Hb2.out (cell_old Hb1.out (by exact p4))), (cell_old Hb2.out (cell_old Hb1.out (by exact s0))), (cell_old Hb2.out (cell_old Hb1.out (by exact s1))), (cell_old Hb2.out (cell_old Hb1.out (by exact s2))), (cell_old Hb2.out (cell_old Hb1.out (by exact o0))), (cell_old Hb2.out (cell_old Hb1.out (by exact o1)))⟩ (fun hHeld => ?_)
  clear hK K
  refine norm_ (a' := ?_) ?_ ?_
  rotate_left
  · show Act.put _ (some 25) _ = _
    simp only [Act.put, List.setIfInBounds_toArray, List.set_cons_zero, List.set_cons_succ, i64_w, i32_w]
    rfl
  refine one_ (i := 13) (N := some 26) #[true, true, true, true, true, true, true, true, true, true, true, true, true, true, false, false] rfl rfl (by kernel_rfl) (by decide) (fun K hK => ?_)
  refine goes_ Try.func105 (by kernel_rfl) rfl #[.agg #[.int .i64 o.kind, .int .i64 o.cache], .int .i64 n] (by rfl) rfl rfl (by simp only [List.map_toArray, List.map_cons, List.map_nil]; rfl) ?_
  with_reducible refine (isOp o n _ (by omega) (by omega)).mono ?_
  rintro e w6 ⟨rfl, hb3⟩
  refine ⟨_, rfl, ?_⟩
  rw [HO.out]
  have Hb3 := Lib.hid hb3
  clear hb3
  refine hK.out _ _ ⟨(cell_old Hb3.out (cell_old Hb2.out (cell_old Hb1.out (by exact p0)))), (cell_old Hb3.out (cell_old Hb2.out (cell_old Hb1.out (by exact p1)))), (cell_old Hb3.out (cell_old Hb2.out (cell_old Hb1.out (by exact p2)))), (cell_old Hb3.out (cell_old Hb2.out (cell_old Hb1.out (by exact p3)))), (cell_old Hb3.out (cell_old Hb2.out (cell_old Hb1.out (by exact p4)))), (cell_old Hb3.out (cell_old Hb2.out (cell_old Hb1.out (by exact s0)))), (cell_old Hb3.out (cell_old Hb2.out (cell_old Hb1.out (by exact s1)))), (cell_old Hb3.out (cell_old Hb2.out (cell_old Hb1.out (by exact s2)))), (cell_old Hb3.out (cell_old Hb2.out (cell_old Hb1.out (by exact o0)))), (cell_old Hb3.out (cell_old Hb2.out (cell_old Hb1.out (by exact o1))))⟩ (fun hHeld => ?_)
  clear hK K
  refine norm_ (a' := ?_) ?_ ?_
  rotate_left
  · show Act.put _ (some 26) _ = _
    simp only [Act.put, List.setIfInBounds_toArray, List.set_cons_zero, List.set_cons_succ, i64_w, i32_w]
    rfl
  refine pure_ (i := 14) (N := some 27) (v := ?_) (a' := ?_) #[true, true, true, true, true, true, true, true, true, true, true, true, true, true, true, false] rfl rfl (by kernel_rfl) (fun _ _ _ h => h) (Or.inl ⟨by rfl, ?_⟩) ?_ ?_
  rotate_left
  · intro w'
    go_simp
    with_reducible rfl
  rotate_left
  · simp only [Act.put, List.setIfInBounds_toArray, List.set_cons_zero, List.set_cons_succ, i64_w, i32_w]
    rfl
  refine last_ (i := 15) (N := some 28) #[true, true, true, true, true, true, true, true, true, true, true, true, true, true, true, true] rfl rfl (by kernel_rfl) (by decide) (fun K hK => ?_)
  refine value_ (w1 := ?_) (v := ?_) (by rfl) rfl ?_ ?_
  rotate_left 2
  · go_simp
    constructor
    · rfl
    · rfl
  refine hK.out _ _ ?_
  clear hK K
  refine norm_ (a' := ?_) ?_ ?_
  rotate_left
  · show Act.put _ (some 28) _ = _
    simp only [Act.put, List.setIfInBounds_toArray, List.set_cons_zero, List.set_cons_succ, i64_w, i32_w]
    rfl
  refine done_ (by kernel_rfl) ?_
  have hb16 : Below w1.heap.size w1 w6 := (((Below.refl w1.heap.size w1).drew).trans (Hb1.out.mono (by simp))).trans ((Hb2.out.mono (by have := Hb1.out.size; simp at this; omega)).trans (Hb3.out.mono (by have := Hb1.out.size; have := Hb2.out.size; simp at *; omega)))
  have HB16 := Lib.hid hb16
  clear hb16 Hb1 Hb2 Hb3
  go_wp2_with fail
  refine (clone A B n c d x _ h0 hn (Kd.C_below HA1.out HB16.out) (Kd.C_below HB1.out HB16.out)).mono ?_
  rintro e w7 ⟨v, rfl, hf, hb7⟩
  obtain ⟨a, b, ca, cb, rfl, hga, hgb, hra, hrb⟩ := hf
  have hsz : w.heap.size + 4 ≤ w6.heap.size := by have := HB16.out.size; have := HS1.out; omega
  have hsz7 : w6.heap.size ≤ w7.heap.size := hb7.size
  have hB7 : ∀ oo, Below w1.heap.size w1 (w7.alloc oo) := fun oo => (HB16.out.trans (hb7.mono (by have := HS1.out; omega))).alloc (by have := HS1.out; omega) oo
  have q0 : ∀ oo, (w7.alloc oo).cell? ⟨w.heap.size, 0, none⟩ = _ := fun oo => cell_old (hB7 oo) p0
  have q1 : ∀ oo, (w7.alloc oo).cell? ⟨w.heap.size, 1, none⟩ = _ := fun oo => cell_old (hB7 oo) p1
  have q2 : ∀ oo, (w7.alloc oo).cell? ⟨w.heap.size, 2, none⟩ = _ := fun oo => cell_old (hB7 oo) p2
  have q3 : ∀ oo, (w7.alloc oo).cell? ⟨w.heap.size, 3, none⟩ = _ := fun oo => cell_old (hB7 oo) p3
  have q4 : ∀ oo, (w7.alloc oo).cell? ⟨w.heap.size, 4, none⟩ = _ := fun oo => cell_old (hB7 oo) p4
  have t0 : ∀ oo, (w7.alloc oo).cell? ⟨w.heap.size + 2, 0, none⟩ = _ := fun oo => cell_old (hB7 oo) o0
  have t1 : ∀ oo, (w7.alloc oo).cell? ⟨w.heap.size + 2, 1, none⟩ = _ := fun oo => cell_old (hB7 oo) o1
  have hS : SysAt (w7.alloc (.cells #[.slice (some ⟨a, 0, none⟩) n ca, .slice (some ⟨b, 0, none⟩) n cb, .bool x.m] 60)) w7.heap.size a b n ca cb x :=
    ⟨heap_alloc_new w7 _, Kd.R_lower (Kd.R_below hra ((Below.refl _ _).alloc (Nat.le_refl _) _)) (Nat.zero_le _), Kd.R_lower (Kd.R_below hrb ((Below.refl _ _).alloc (Nat.le_refl _) _)) (Nat.zero_le _)⟩
  have HS := Lib.hid hS
  have HB7 := Lib.hid hB7
  have HLT := Lib.hid (And.intro hga hgb)
  have HSZ := Lib.hid (And.intro hsz hsz7)
  clear hB7 hra hrb hS hga hgb hsz hsz7 hb7 p0 p1 p2 p3 p4 s0 s1 s2 o0 o1
  go_wp2_with fail
  have hge : ∀ k, own3 w7.heap.size a b k → w.heap.size + 4 ≤ k := by have := HLT.out; have := HSZ.out; rintro k (rfl | rfl | rfl) <;> omega
  have HGE := Lib.hid hge
  have hop : 0 ≤ o.kind ∧ o.kind ≤ 2 ∧ 0 ≤ o.cache ∧ o.cache < n := by have := HO.out; simp [okOp, inR] at this; omega
  have HOP := Lib.hid hop
  clear hge hop
  have key : ∀ wr, Chg (own3 w7.heap.size a b) (w7.alloc (.cells #[.slice (some ⟨a, 0, none⟩) n ca, .slice (some ⟨b, 0, none⟩) n cb, .bool x.m] 60)) wr → Below (w.heap.size + 4) w1 wr := fun wr hc =>
    ((HB7.out _).mono (by have := HS1.out; omega)).trans (hc.below (by have := HSZ.out; simp; omega) HGE.out)
  have KEY := Lib.hid key
  clear key
  refine (step w7.heap.size a b n ca cb x p _ o _ HS.out h0 hn (fun wr hc => HV.out.below (HBW.out.trans ((KEY.out wr hc).mono (by omega)))) HOP.out.2.2.1 HOP.out.2.2.2 (fun j _ => HX.out.bd j) (valid_tabs HP.out) ⟨HOP.out.1, HOP.out.2.1⟩).mono ?_
  rintro e w8 ⟨rfl, hS8, hC8⟩
  have HX8 := Lib.hid (HX.out.step HP.out o HOP.out.2.2.1 HOP.out.2.2.2)
  have HS8 := Lib.hid hS8
  have HC8 := Lib.hid hC8
  obtain ⟨z, hz⟩ : ∃ z, stepS p x o = z := ⟨_, rfl⟩
  obtain ⟨y, fl, sn, bk⟩ := z
  rw [hz] at HX8 HS8
  rw [hz]
  simp only at HX8 HS8
  have HZ := Lib.hid hz
  clear hz hS8 hC8 q0 q1 q2 q3 q4 t0 t1
  obtain ⟨u0, u1, u2, _⟩ := HS8.out.cells
  have hr : w8.heap[w.heap.size + 3]? = _ := ((KEY.out w8 HC8.out).block _ (by omega)).trans HX3.out
  have q0 := cell_blk hr 0 _ rfl
  have q1 := cell_blk hr 1 _ rfl
  have q2 := cell_blk hr 2 _ rfl
  have q0f := Lib.frozen_of_heap hr 0
  have q1f := Lib.frozen_of_heap hr 1
  have q2f := Lib.frozen_of_heap hr 2
  clear hr
  go_wp2_with fail
  have hne : ∀ q, own3 w7.heap.size a b q → q ≠ w.heap.size + 3 := fun q hq e => by have := HGE.out q hq; omega
  have hSf := HS8.out.move (w1 := ((w8.setCell ⟨w.heap.size + 3, 0, none⟩ (.slice (some ⟨a, 0, none⟩) n ca)).setCell ⟨w.heap.size + 3, 1, none⟩ (.slice (some ⟨b, 0, none⟩) n cb)).setCell ⟨w.heap.size + 3, 2, none⟩ (.bool y.m)) (fun q hq => by rw [Below.heap_setCell _ _ _ _ (hne q hq), Below.heap_setCell _ _ _ _ (hne q hq), Below.heap_setCell _ _ _ _ (hne q hq)])
  refine bodyPost_ret (v := .tuple #[.agg #[.slice (some ⟨a, 0, none⟩) n ca, .slice (some ⟨b, 0, none⟩) n cb, .bool y.m], .bool fl, .bool true]) (by simp [results, Try.results46, go_sem, q0, q1, q2]) rfl ⟨_, by rw [HZ.out], by rw [HZ.out]; exact ⟨a, b, ca, cb, rfl, Kd.R_mono hSf.rc (fun k hk => by have := HLT.out.1; have := HSZ.out.1; omega), Kd.R_mono hSf.rf (fun k hk => by have := HLT.out.2; have := HSZ.out.1; omega)⟩, ?_⟩
  exact (((HBW.out.trans ((KEY.out w8 HC8.out).mono (by omega))).setCell (p := ⟨w.heap.size + 3, 0, none⟩) (by simp) _).setCell (p := ⟨w.heap.size + 3, 1, none⟩) (by simp) _).setCell (p := ⟨w.heap.size + 3, 2, none⟩) (by simp) _
end Go.Proofs.Ytfeabjiccnnpcaa.Ca
