import Derived.Test.YtfeabjiccnnpcaaCj
set_option linter.unusedVariables false
set_option linter.unusedSimpArgs false
namespace Go.Proofs.Ytfeabjiccnnpcaa.Ca
open Go.RowKit Go.Proofs.YtfeabjiccnnpcaaW.PrintWords Go.Proofs.YtfeabjiccnnpcaaW.PrintLast Go.Proofs.Ytfeabjiccnnpcaa.Ba

theorem R_one {α : Type} {d : Kd α} {e : Nat} {w : World} {base : Nat} {ok : Nat → Prop} {g n c : Nat} {xs : List α} (h1 : ∃ enc, ∃ h, d = Kd.scalar enc h) (h : d.R e w base ok (.slice (some ⟨g, 0, none⟩) n c) xs) : d.R e w base (fun k => k = g) (.slice (some ⟨g, 0, none⟩) n c) xs := by
  obtain ⟨enc, h2, rfl⟩ := h1
  have := Kd.own_of_R h
  exact Kd.R_of_own this (fun k hk => by simpa [Value.ownBlock] using hk.symm)

/-- a fresh system's value -/
def Fresh (w w' : World) (n : Nat) (x : Sys) (v : Value) : Prop := ∃ a b ca cb, v = .agg #[.slice (some ⟨a, 0, none⟩) n ca, .slice (some ⟨b, 0, none⟩) n cb, .bool x.m] ∧ w.heap.size ≤ a ∧ w.heap.size ≤ b ∧
  (Kd.int .i64).R 2 w' w.heap.size (fun k => k = a) (.slice (some ⟨a, 0, none⟩) n ca) x.cs ∧ Kd.bool.R 4 w' w.heap.size (fun k => k = b) (.slice (some ⟨b, 0, none⟩) n cb) x.fs

set_option maxHeartbeats 1000000 in
set_option maxRecDepth 100000 in
theorem clone (A B : Option Addr) (n c d : Nat) (x : Sys) (w : World) (h0 : 0 < n) (hn : n ≤ 3) (hA : Kd.C (Kd.int .i64) w A n x.cs) (hB : Kd.C Kd.bool w B n x.fs) :
    Calls Try.prog 106 #[.agg #[.slice A n c, .slice B n d, .bool x.m]] w fun e w' => ∃ v, e = .returned v ∧ Fresh w w' n x v ∧ Below w.heap.size w w' := by
  have hlA : x.cs.length = n := hA.1
  have hlB : x.fs.length = n := hB.1
  have hb2 := below_al2 w (.cells #[.slice A n c, .slice B n d, .bool x.m] 60) (.cells #[.slice none 0 0, .slice none 0 0, .bool false] 60)
  have HA := Lib.hid (Kd.C_below hA hb2)
  have HB := Lib.hid (Kd.C_below hB hb2)
  have hx0 : ((w.alloc (.cells #[.slice A n c, .slice B n d, .bool x.m] 60)).alloc (.cells #[.slice none 0 0, .slice none 0 0, .bool false] 60)).heap[w.heap.size]? = some (.cells #[.slice A n c, .slice B n d, .bool x.m] 60 (0, 0)) := by
    rw [Below.heap_alloc _ _ _ (by simp)]; exact heap_alloc_new w _
  have hx1 : ((w.alloc (.cells #[.slice A n c, .slice B n d, .bool x.m] 60)).alloc (.cells #[.slice none 0 0, .slice none 0 0, .bool false] 60)).heap[w.heap.size + 1]? = some (.cells #[.slice none 0 0, .slice none 0 0, .bool false] 60 (0, 0)) := by
    have := heap_alloc_new (w.alloc (.cells #[.slice A n c, .slice B n d, .bool x.m] 60)) (.cells #[.slice none 0 0, .slice none 0 0, .bool false] 60)
    simpa using this
  have k0 := cell_blk hx0 0 _ rfl
  have k1 := cell_blk hx0 1 _ rfl
  have k2 := cell_blk hx0 2 _ rfl
  have HX1 := Lib.hid hx1
  have HLA := Lib.hid hlA
  have HLB := Lib.hid hlB
  have HBW := Lib.hid hb2
  clear hA hB hb2 hx0 hx1 hlA hlB
  go_enter Try.func106, Try.ntmps106
  go_wp2
  refine start_ (n := 10) (S := fun w' => w'.cell? ⟨w.heap.size, 0, none⟩ = some (.slice A n c) ∧ w'.cell? ⟨w.heap.size, 1, none⟩ = some (.slice B n d) ∧ w'.cell? ⟨w.heap.size, 2, none⟩ = some (.bool x.m)) (ds := [9]) #[false, false, false, false, false, false, false, false, false, false] (by kernel_rfl) rfl rfl ⟨k0, k1, k2⟩ (fun hHeld => ?_)
  refine pure_ (i := 0) (N := some 3) (v := ?_) (a' := ?_) #[true, false, false, false, false, false, false, false, false, false] rfl rfl (by kernel_rfl) (fun _ _ _ h => h) (Or.inl ⟨by rfl, ?_⟩) ?_ ?_
  rotate_left
  · intro w'
    go_simp
    with_reducible rfl
  rotate_left
  · simp only [Act.put, List.setIfInBounds_toArray, List.set_cons_zero, List.set_cons_succ, i64_w, i32_w]
    rfl
  refine pure_ (i := 3) (N := some 6) (v := ?_) (a' := ?_) #[true, false, false, true, false, false, false, false, false, false] rfl rfl (by kernel_rfl) (fun _ _ _ h => h) (Or.inl ⟨by rfl, ?_⟩) ?_ ?_
  rotate_left
  · intro w'
    go_simp
    with_reducible rfl
  rotate_left
  · simp only [Act.put, List.setIfInBounds_toArray, List.set_cons_zero, List.set_cons_succ, i64_w, i32_w]
    rfl
  refine pure_ (i := 6) (N := some 9) (v := ?_) (a' := ?_) #[true, false, false, true, false, false, true, false, false, false] rfl rfl (by kernel_rfl) (fun _ _ _ h => h) (Or.inl ⟨by rfl, ?_⟩) ?_ ?_
  rotate_left
  · intro w'
    go_simp
    with_reducible rfl
  rotate_left
  · simp only [Act.put, List.setIfInBounds_toArray, List.set_cons_zero, List.set_cons_succ, i64_w, i32_w]
    rfl
  refine take_ (i := 1) (N := some 4) (v := ?_) (a' := ?_) #[true, true, false, true, false, false, true, false, false, false] rfl rfl (by kernel_rfl) (fun _ _ _ h => h) (Or.inl ⟨by rfl, ?_⟩) hHeld ?_ ?_
  rotate_left
  · rintro w' ⟨s0, s1, s2⟩
    go_simp
    with_reducible rfl
  rotate_left
  · simp only [Act.put, List.setIfInBounds_toArray, List.set_cons_zero, List.set_cons_succ, i64_w, i32_w]
    rfl
  refine take_ (i := 4) (N := some 7) (v := ?_) (a' := ?_) #[true, true, false, true, true, false, true, false, false, false] rfl rfl (by kernel_rfl) (fun _ _ _ h => h) (Or.inl ⟨by rfl, ?_⟩) hHeld ?_ ?_
  rotate_left
  · rintro w' ⟨s0, s1, s2⟩
    go_simp
    with_reducible rfl
  rotate_left
  · simp only [Act.put, List.setIfInBounds_toArray, List.set_cons_zero, List.set_cons_succ, i64_w, i32_w]
    rfl
  refine take_ (i := 7) (N := some 10) (v := ?_) (a' := ?_) #[true, true, false, true, true, false, true, true, false, false] rfl rfl (by kernel_rfl) (fun _ _ _ h => h) (Or.inl ⟨by rfl, ?_⟩) hHeld ?_ ?_
  rotate_left
  · rintro w' ⟨s0, s1, s2⟩
    go_simp
    with_reducible rfl
  rotate_left
  · simp only [Act.put, List.setIfInBounds_toArray, List.set_cons_zero, List.set_cons_succ, i64_w, i32_w]
    rfl
  refine one_ (i := 2) (N := some 5) #[true, true, true, true, true, false, true, true, false, false] rfl rfl (by kernel_rfl) (by decide) (fun K hK => ?_)
  refine goes_ Try.func168 (by kernel_rfl) rfl #[.slice A n c] (by rfl) rfl rfl (by simp only [List.map_toArray, List.map_cons, List.map_nil]; rfl) ?_
  with_reducible refine (clone168 A c n x.cs _ (Kd.C_below HA.out ((Below.refl _ _).drew)) (by omega)).mono ?_
  rintro e w3 ⟨v1, rfl, hR1, hb1⟩
  refine ⟨_, rfl, ?_⟩
  obtain ⟨a, ca, rfl, ha, hal, _⟩ := Kd.R_form hR1 (by rw [HLA.out]; omega)
  rw [HLA.out] at hR1 ⊢
  have HR1 := Lib.hid hR1
  have Hb1 := Lib.hid hb1
  clear hR1 hb1
  refine hK.out _ _ ⟨(cell_old Hb1.out (by exact k0)), (cell_old Hb1.out (by exact k1)), (cell_old Hb1.out (by exact k2))⟩ (fun hHeld => ?_)
  clear hK K
  refine norm_ (a' := ?_) ?_ ?_
  rotate_left
  · show Act.put _ (some 5) _ = _
    simp only [Act.put, List.setIfInBounds_toArray, List.set_cons_zero, List.set_cons_succ, i64_w, i32_w]
    rfl
  refine one_ (i := 5) (N := some 8) #[true, true, true, true, true, true, true, true, false, false] rfl rfl (by kernel_rfl) (by decide) (fun K hK => ?_)
  refine goes_ Try.func169 (by kernel_rfl) rfl #[.slice B n d] (by rfl) rfl rfl (by simp only [List.map_toArray, List.map_cons, List.map_nil]; rfl) ?_
  with_reducible refine (clone169 B d n x.fs _ (Kd.C_below (Kd.C_below HB.out ((Below.refl _ _).drew)) Hb1.out) (by omega)).mono ?_
  rintro e w4 ⟨v2, rfl, hR2, hb2⟩
  refine ⟨_, rfl, ?_⟩
  obtain ⟨b, cb, rfl, hb, hbl, _⟩ := Kd.R_form hR2 (by rw [HLB.out]; omega)
  rw [HLB.out] at hR2 ⊢
  have HR2 := Lib.hid hR2
  have Hb2 := Lib.hid hb2
  clear hR2 hb2
  refine hK.out _ _ ⟨(cell_old Hb2.out (cell_old Hb1.out (by exact k0))), (cell_old Hb2.out (cell_old Hb1.out (by exact k1))), (cell_old Hb2.out (cell_old Hb1.out (by exact k2)))⟩ (fun hHeld => ?_)
  clear hK K
  refine norm_ (a' := ?_) ?_ ?_
  rotate_left
  · show Act.put _ (some 8) _ = _
    simp only [Act.put, List.setIfInBounds_toArray, List.set_cons_zero, List.set_cons_succ, i64_w, i32_w]
    rfl
  refine pure_ (i := 8) (N := some 11) (v := ?_) (a' := ?_) #[true, true, true, true, true, true, true, true, true, false] rfl rfl (by kernel_rfl) (fun _ _ _ h => h) (Or.inl ⟨by rfl, ?_⟩) ?_ ?_
  rotate_left
  · intro w'
    go_simp
    with_reducible rfl
  rotate_left
  · simp only [Act.put, List.setIfInBounds_toArray, List.set_cons_zero, List.set_cons_succ, i64_w, i32_w]
    rfl
  refine last_ (i := 9) (N := none) #[true, true, true, true, true, true, true, true, true, true] rfl rfl (by kernel_rfl) (by decide) (fun K hK => ?_)
  have hr := (Hb2.out.block (w.heap.size + 1) (by have := Hb1.out.size; simp at this; omega)).trans ((Hb1.out.block (w.heap.size + 1) (by simp)).trans HX1.out)
  have q0 := cell_blk hr 0 _ rfl
  have q1 := cell_blk hr 1 _ rfl
  have q2 := cell_blk hr 2 _ rfl
  have q0f := Lib.frozen_of_heap hr 0
  have q1f := Lib.frozen_of_heap hr 1
  have q2f := Lib.frozen_of_heap hr 2
  refine skip_ (w1 := ?_) (by rfl) rfl ?_ ?_
  rotate_left
  · go_simp
    rfl
  refine hK.out _ _ ?_
  clear hK K
  refine done_ (by kernel_rfl) ?_
  go_wp2
  have hs1 := Hb1.out.size
  have hs2 := Hb2.out.size
  have hs0 : w.heap.size + 2 ≤ w3.heap.size := by simpa using hs1
  have hga : w.heap.size + 2 ≤ a := by simpa using ha
  have hgb : w.heap.size + 2 ≤ b := by omega
  have hne : ∀ q, w.heap.size + 2 ≤ q → q ≠ w.heap.size + 1 := fun q hq => by omega
  refine bodyPost_ret (v := .agg #[.slice (some ⟨a, 0, none⟩) n ca, .slice (some ⟨b, 0, none⟩) n cb, .bool x.m]) (by simp [results, Try.results106, go_sem, q0, q1, q2]) rfl ⟨_, rfl, ⟨a, b, ca, cb, rfl, by omega, by omega, ?_, ?_⟩, ?_⟩
  · have h := R_one ⟨_, _, rfl⟩ (Kd.R_below HR1.out Hb2.out)
    exact Kd.R_lower (Kd.R_move h (fun k hk => by subst hk; rw [Below.heap_setCell _ _ _ _ (hne _ hga), Below.heap_setCell _ _ _ _ (hne _ hga), Below.heap_setCell _ _ _ _ (hne _ hga)])) (by simp; omega)
  · have h := R_one ⟨_, _, rfl⟩ HR2.out
    exact Kd.R_lower (Kd.R_move h (fun k hk => by subst hk; rw [Below.heap_setCell _ _ _ _ (hne _ hgb), Below.heap_setCell _ _ _ _ (hne _ hgb), Below.heap_setCell _ _ _ _ (hne _ hgb)])) (by omega)
  · have hB : Below w.heap.size w w4 := (HBW.out.trans (((Below.refl w.heap.size _).drew).trans (Hb1.out.mono (by simp; omega)))).trans (Hb2.out.mono (by omega))
    exact ((hB.setCell (p := ⟨w.heap.size + 1, 0, none⟩) (by simp) _).setCell (p := ⟨w.heap.size + 1, 1, none⟩) (by simp) _).setCell (p := ⟨w.heap.size + 1, 2, none⟩) (by simp) _
end Go.Proofs.Ytfeabjiccnnpcaa.Ca
