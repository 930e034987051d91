import Derived.Test.YtfeabjiccnnpcaaSj
set_option linter.unusedVariables false
set_option linter.unusedSimpArgs false
namespace Go.Proofs.Ytfeabjiccnnpcaa.Ca
open Go.RowKit Go.Proofs.YtfeabjiccnnpcaaW.PrintWords Go.Proofs.YtfeabjiccnnpcaaW.PrintLast Go.Proofs.Ytfeabjiccnnpcaa.Ba

def Proto.put (p : Proto) (k : Nat) (t : List Rule) : Proto :=
  match k with
  | 0 => { p with rd := t }
  | 1 => { p with wr := t }
  | 2 => { p with ev := t }
  | 3 => { p with sr := t }
  | _ => { p with sw := t }
theorem Proto.put_tab (p : Proto) (k j : Nat) (t : List Rule) (hk : k < 5) (hj : j < 5) : (p.put k t).tab j = if j = k then t else p.tab j := by
  have hk5 : k = 0 ∨ k = 1 ∨ k = 2 ∨ k = 3 ∨ k = 4 := by omega
  have hj5 : j = 0 ∨ j = 1 ∨ j = 2 ∨ j = 3 ∨ j = 4 := by omega
  rcases hk5 with rfl | rfl | rfl | rfl | rfl <;> rcases hj5 with rfl | rfl | rfl | rfl | rfl <;> rfl
theorem ProtoV.tabs {w : World} {p : Proto} {v : Value} (h : ProtoV w p v) : ∃ (AA : Nat → Option Addr) (cc : Nat → Nat), v = .agg #[.slice (AA 0) (p.tab 0).length (cc 0), .slice (AA 1) (p.tab 1).length (cc 1), .slice (AA 2) (p.tab 2).length (cc 2), .slice (AA 3) (p.tab 3).length (cc 3), .slice (AA 4) (p.tab 4).length (cc 4)] ∧ ∀ k, k < 5 → (p.tab k).length ≤ cc k ∧ Kd.C kRule w (AA k) (p.tab k).length (p.tab k) := by
  obtain ⟨A0, c0, A1, c1, A2, c2, A3, c3, A4, c4, rfl, h0, k0, h1, k1, h2, k2, h3, k3, h4, k4⟩ := h
  refine ⟨fun k => match k with | 0 => A0 | 1 => A1 | 2 => A2 | 3 => A3 | _ => A4, fun k => match k with | 0 => c0 | 1 => c1 | 2 => c2 | 3 => c3 | _ => c4, rfl, fun k hk => ?_⟩
  match k, hk with
  | 0, _ => exact ⟨h0, k0⟩
  | 1, _ => exact ⟨h1, k1⟩
  | 2, _ => exact ⟨h2, k2⟩
  | 3, _ => exact ⟨h3, k3⟩
  | 4, _ => exact ⟨h4, k4⟩
theorem proto_mk5 {w : World} {p : Proto} {v0 v1 v2 v3 v4 : Value} {b : Nat} {k0 k1 k2 k3 k4 : Nat → Prop} (h0 : Kd.R kRule 145 w b k0 v0 (p.tab 0)) (h1 : Kd.R kRule 145 w b k1 v1 (p.tab 1)) (h2 : Kd.R kRule 145 w b k2 v2 (p.tab 2)) (h3 : Kd.R kRule 145 w b k3 v3 (p.tab 3)) (h4 : Kd.R kRule 145 w b k4 v4 (p.tab 4)) : ProtoV w p (.agg #[v0, v1, v2, v3, v4]) := by
  have z : ∀ {k : Nat → Prop} {v : Value} {xs : List Rule}, Kd.R kRule 145 w b k v xs → Kd.R kRule 145 w 0 (fun _ => True) v xs := fun h => Kd.R_lower (Kd.R_mono h (fun _ _ => trivial)) (Nat.zero_le _)
  exact proto_mk (z h0) (z h1) (z h2) (z h3) (z h4)
theorem ProtoV.zero (w : World) : ProtoV w ⟨[], [], [], [], []⟩ (.agg #[.slice none 0 0, .slice none 0 0, .slice none 0 0, .slice none 0 0, .slice none 0 0]) := by
  have h : Kd.C kRule w none 0 [] := by
    obtain ⟨A, c, e, _, hC⟩ := Kd.R_reads (Kd.R_nil kRule 145 w 0 (fun _ => True))
    injection e with e1 e2 e3
    rw [e1]; exact hC
  exact ⟨none, 0, none, 0, none, 0, none, 0, none, 0, rfl, Nat.le_refl _, h, Nat.le_refl _, h, Nat.le_refl _, h, Nat.le_refl _, h, Nat.le_refl _, h⟩

set_option maxHeartbeats 1000000 in
set_option maxRecDepth 100000 in
theorem l10TablesX (h : Nat) (AA : Nat → Option Addr) (nn cc : Nat → Nat) (w : World) (hp : ∀ k, k < 5 → w.cell? ⟨h, k, none⟩ = some (.slice (AA k) (nn k) (cc k))) : Calls Try.prog 103 #[.pointer (some ⟨h, 0, none⟩)] w fun e w' => e = .returned (.slice (some ⟨w.heap.size, 0, none⟩) 5 5) ∧ Below w.heap.size w w' ∧ w.heap.size < w'.heap.size ∧ ∀ k, k < 5 → w'.cell? ⟨w.heap.size, k, none⟩ = some (.slice (AA k) (nn k) (cc k)) := by
  have h0 := hp 0 (by omega)
  have h1 := hp 1 (by omega)
  have h2 := hp 2 (by omega)
  have h3 := hp 3 (by omega)
  have h4 := hp 4 (by omega)
  clear hp
  go_enter Try.func103, Try.ntmps103
  go_wp2
  refine start_ (n := 22) (S := fun w' => w'.cell? ⟨h, 0, none⟩ = some (.slice (AA 0) (nn 0) (cc 0)) ∧ w'.cell? ⟨h, 1, none⟩ = some (.slice (AA 1) (nn 1) (cc 1)) ∧ w'.cell? ⟨h, 2, none⟩ = some (.slice (AA 2) (nn 2) (cc 2)) ∧ w'.cell? ⟨h, 3, none⟩ = some (.slice (AA 3) (nn 3) (cc 3)) ∧ w'.cell? ⟨h, 4, none⟩ = some (.slice (AA 4) (nn 4) (cc 4))) (ds := [20]) #[false, false, false, false, false, false, false, false, false, false, false, false, false, false, false, false, false, false, false, false, false, false] (by kernel_rfl) rfl rfl ⟨h0, h1, h2, h3, h4⟩ (fun hHeld => ?_)
  refine pure_ (i := 0) (N := some 3) (v := ?_) (a' := ?_) #[true, false, false, false, false, false, false, false, false, false, false, false, false, false, false, false, false, false, false, false, false, false] rfl rfl (by kernel_rfl) (fun _ _ _ h => h) (Or.inl ⟨by rfl, ?_⟩) ?_ ?_
  rotate_left
  · intro w'
    go_simp
    with_reducible rfl
  rotate_left
  · simp only [Act.put, List.setIfInBounds_toArray, List.set_cons_zero, List.set_cons_succ, i64_w, i32_w]
    rfl
  refine pure_ (i := 1) (N := some 4) (v := ?_) (a' := ?_) #[true, true, false, false, false, false, false, false, false, false, false, false, false, false, false, false, false, false, false, false, false, false] rfl rfl (by kernel_rfl) (fun _ _ _ h => h) (Or.inl ⟨by rfl, ?_⟩) ?_ ?_
  rotate_left
  · intro w'
    go_simp
    with_reducible rfl
  rotate_left
  · simp only [Act.put, List.setIfInBounds_toArray, List.set_cons_zero, List.set_cons_succ, i64_w, i32_w]
    rfl
  refine pure_ (i := 2) (N := some 5) (v := ?_) (a' := ?_) #[true, true, true, false, false, false, false, false, false, false, false, false, false, false, false, false, false, false, false, false, false, false] rfl rfl (by kernel_rfl) (fun _ _ _ h => h) (Or.inl ⟨by rfl, ?_⟩) ?_ ?_
  rotate_left
  · intro w'
    go_simp
    with_reducible rfl
  rotate_left
  · simp only [Act.put, List.setIfInBounds_toArray, List.set_cons_zero, List.set_cons_succ, i64_w, i32_w]
    rfl
  refine pure_ (i := 4) (N := some 7) (v := ?_) (a' := ?_) #[true, true, true, false, true, false, false, false, false, false, false, false, false, false, false, false, false, false, false, false, false, false] rfl rfl (by kernel_rfl) (fun _ _ _ h => h) (Or.inl ⟨by rfl, ?_⟩) ?_ ?_
  rotate_left
  · intro w'
    go_simp
    with_reducible rfl
  rotate_left
  · simp only [Act.put, List.setIfInBounds_toArray, List.set_cons_zero, List.set_cons_succ, i64_w, i32_w]
    rfl
  refine pure_ (i := 5) (N := some 8) (v := ?_) (a' := ?_) #[true, true, true, false, true, true, false, false, false, false, false, false, false, false, false, false, false, false, false, false, false, false] rfl rfl (by kernel_rfl) (fun _ _ _ h => h) (Or.inl ⟨by rfl, ?_⟩) ?_ ?_
  rotate_left
  · intro w'
    go_simp
    with_reducible rfl
  rotate_left
  · simp only [Act.put, List.setIfInBounds_toArray, List.set_cons_zero, List.set_cons_succ, i64_w, i32_w]
    rfl
  refine pure_ (i := 6) (N := some 9) (v := ?_) (a' := ?_) #[true, true, true, false, true, true, true, false, false, false, false, false, false, false, false, false, false, false, false, false, false, false] rfl rfl (by kernel_rfl) (fun _ _ _ h => h) (Or.inl ⟨by rfl, ?_⟩) ?_ ?_
  rotate_left
  · intro w'
    go_simp
    with_reducible rfl
  rotate_left
  · simp only [Act.put, List.setIfInBounds_toArray, List.set_cons_zero, List.set_cons_succ, i64_w, i32_w]
    rfl
  refine pure_ (i := 8) (N := some 11) (v := ?_) (a' := ?_) #[true, true, true, false, true, true, true, false, true, false, false, false, false, false, false, false, false, false, false, false, false, false] rfl rfl (by kernel_rfl) (fun _ _ _ h => h) (Or.inl ⟨by rfl, ?_⟩) ?_ ?_
  rotate_left
  · intro w'
    go_simp
    with_reducible rfl
  rotate_left
  · simp only [Act.put, List.setIfInBounds_toArray, List.set_cons_zero, List.set_cons_succ, i64_w, i32_w]
    rfl
  refine pure_ (i := 9) (N := some 12) (v := ?_) (a' := ?_) #[true, true, true, false, true, true, true, false, true, true, false, false, false, false, false, false, false, false, false, false, false, false] rfl rfl (by kernel_rfl) (fun _ _ _ h => h) (Or.inl ⟨by rfl, ?_⟩) ?_ ?_
  rotate_left
  · intro w'
    go_simp
    with_reducible rfl
  rotate_left
  · simp only [Act.put, List.setIfInBounds_toArray, List.set_cons_zero, List.set_cons_succ, i64_w, i32_w]
    rfl
  refine pure_ (i := 10) (N := some 13) (v := ?_) (a' := ?_) #[true, true, true, false, true, true, true, false, true, true, true, false, false, false, false, false, false, false, false, false, false, false] rfl rfl (by kernel_rfl) (fun _ _ _ h => h) (Or.inl ⟨by rfl, ?_⟩) ?_ ?_
  rotate_left
  · intro w'
    go_simp
    with_reducible rfl
  rotate_left
  · simp only [Act.put, List.setIfInBounds_toArray, List.set_cons_zero, List.set_cons_succ, i64_w, i32_w]
    rfl
  refine pure_ (i := 12) (N := some 15) (v := ?_) (a' := ?_) #[true, true, true, false, true, true, true, false, true, true, true, false, true, false, false, false, false, false, false, false, false, false] rfl rfl (by kernel_rfl) (fun _ _ _ h => h) (Or.inl ⟨by rfl, ?_⟩) ?_ ?_
  rotate_left
  · intro w'
    go_simp
    with_reducible rfl
  rotate_left
  · simp only [Act.put, List.setIfInBounds_toArray, List.set_cons_zero, List.set_cons_succ, i64_w, i32_w]
    rfl
  refine pure_ (i := 13) (N := some 16) (v := ?_) (a' := ?_) #[true, true, true, false, true, true, true, false, true, true, true, false, true, true, false, false, false, false, false, false, false, false] rfl rfl (by kernel_rfl) (fun _ _ _ h => h) (Or.inl ⟨by rfl, ?_⟩) ?_ ?_
  rotate_left
  · intro w'
    go_simp
    with_reducible rfl
  rotate_left
  · simp only [Act.put, List.setIfInBounds_toArray, List.set_cons_zero, List.set_cons_succ, i64_w, i32_w]
    rfl
  refine pure_ (i := 14) (N := some 17) (v := ?_) (a' := ?_) #[true, true, true, false, true, true, true, false, true, true, true, false, true, true, true, false, false, false, false, false, false, false] rfl rfl (by kernel_rfl) (fun _ _ _ h => h) (Or.inl ⟨by rfl, ?_⟩) ?_ ?_
  rotate_left
  · intro w'
    go_simp
    with_reducible rfl
  rotate_left
  · simp only [Act.put, List.setIfInBounds_toArray, List.set_cons_zero, List.set_cons_succ, i64_w, i32_w]
    rfl
  refine pure_ (i := 16) (N := some 19) (v := ?_) (a' := ?_) #[true, true, true, false, true, true, true, false, true, true, true, false, true, true, true, false, true, false, false, false, false, false] rfl rfl (by kernel_rfl) (fun _ _ _ h => h) (Or.inl ⟨by rfl, ?_⟩) ?_ ?_
  rotate_left
  · intro w'
    go_simp
    with_reducible rfl
  rotate_left
  · simp only [Act.put, List.setIfInBounds_toArray, List.set_cons_zero, List.set_cons_succ, i64_w, i32_w]
    rfl
  refine pure_ (i := 17) (N := some 20) (v := ?_) (a' := ?_) #[true, true, true, false, true, true, true, false, true, true, true, false, true, true, true, false, true, true, false, false, false, false] rfl rfl (by kernel_rfl) (fun _ _ _ h => h) (Or.inl ⟨by rfl, ?_⟩) ?_ ?_
  rotate_left
  · intro w'
    go_simp
    with_reducible rfl
  rotate_left
  · simp only [Act.put, List.setIfInBounds_toArray, List.set_cons_zero, List.set_cons_succ, i64_w, i32_w]
    rfl
  refine pure_ (i := 18) (N := some 21) (v := ?_) (a' := ?_) #[true, true, true, false, true, true, true, false, true, true, true, false, true, true, true, false, true, true, true, false, false, false] rfl rfl (by kernel_rfl) (fun _ _ _ h => h) (Or.inl ⟨by rfl, ?_⟩) ?_ ?_
  rotate_left
  · intro w'
    go_simp
    with_reducible rfl
  rotate_left
  · simp only [Act.put, List.setIfInBounds_toArray, List.set_cons_zero, List.set_cons_succ, i64_w, i32_w]
    rfl
  refine take_ (i := 3) (N := some 6) (v := ?_) (a' := ?_) #[true, true, true, true, true, true, true, false, true, true, true, false, true, true, true, false, true, true, true, false, false, false] rfl rfl (by kernel_rfl) (fun _ _ _ h => h) (Or.inl ⟨by rfl, ?_⟩) hHeld ?_ ?_
  rotate_left
  · rintro w' ⟨s0, s1, s2, s3, s4⟩
    go_simp
    with_reducible rfl
  rotate_left
  · simp only [Act.put, List.setIfInBounds_toArray, List.set_cons_zero, List.set_cons_succ, i64_w, i32_w]
    rfl
  refine take_ (i := 7) (N := some 10) (v := ?_) (a' := ?_) #[true, true, true, true, true, true, true, true, true, true, true, false, true, true, true, false, true, true, true, false, false, false] rfl rfl (by kernel_rfl) (fun _ _ _ h => h) (Or.inl ⟨by rfl, ?_⟩) hHeld ?_ ?_
  rotate_left
  · rintro w' ⟨s0, s1, s2, s3, s4⟩
    go_simp
    with_reducible rfl
  rotate_left
  · simp only [Act.put, List.setIfInBounds_toArray, List.set_cons_zero, List.set_cons_succ, i64_w, i32_w]
    rfl
  refine take_ (i := 11) (N := some 14) (v := ?_) (a' := ?_) #[true, true, true, true, true, true, true, true, true, true, true, true, true, true, true, false, true, true, true, false, false, false] rfl rfl (by kernel_rfl) (fun _ _ _ h => h) (Or.inl ⟨by rfl, ?_⟩) hHeld ?_ ?_
  rotate_left
  · rintro w' ⟨s0, s1, s2, s3, s4⟩
    go_simp
    with_reducible rfl
  rotate_left
  · simp only [Act.put, List.setIfInBounds_toArray, List.set_cons_zero, List.set_cons_succ, i64_w, i32_w]
    rfl
  refine take_ (i := 15) (N := some 18) (v := ?_) (a' := ?_) #[true, true, true, true, true, true, true, true, true, true, true, true, true, true, true, true, true, true, true, false, false, false] rfl rfl (by kernel_rfl) (fun _ _ _ h => h) (Or.inl ⟨by rfl, ?_⟩) hHeld ?_ ?_
  rotate_left
  · rintro w' ⟨s0, s1, s2, s3, s4⟩
    go_simp
    with_reducible rfl
  rotate_left
  · simp only [Act.put, List.setIfInBounds_toArray, List.set_cons_zero, List.set_cons_succ, i64_w, i32_w]
    rfl
  refine take_ (i := 19) (N := some 22) (v := ?_) (a' := ?_) #[true, true, true, true, true, true, true, true, true, true, true, true, true, true, true, true, true, true, true, true, false, false] rfl rfl (by kernel_rfl) (fun _ _ _ h => h) (Or.inl ⟨by rfl, ?_⟩) hHeld ?_ ?_
  rotate_left
  · rintro w' ⟨s0, s1, s2, s3, s4⟩
    go_simp
    with_reducible rfl
  rotate_left
  · simp only [Act.put, List.setIfInBounds_toArray, List.set_cons_zero, List.set_cons_succ, i64_w, i32_w]
    rfl
  refine last_ (i := 20) (N := some 23) #[true, true, true, true, true, true, true, true, true, true, true, true, true, true, true, true, true, true, true, true, true, false] rfl rfl (by kernel_rfl) (by decide) (fun K hK => ?_)
  refine value_ (w1 := ?_) (v := ?_) (by rfl) rfl ?_ ?_
  rotate_left 2
  · go_simp
    constructor
    · rfl
    · rfl
  refine hK.out _ _ ?_
  clear hK K
  refine norm_ (a' := ?_) ?_ ?_
  rotate_left
  · show Act.put _ (some 23) _ = _
    simp only [Act.put, List.setIfInBounds_toArray, List.set_cons_zero, List.set_cons_succ, i64_w, i32_w]
    rfl
  refine pure_ (i := 21) (N := some 2) (v := ?_) (a' := ?_) #[true, true, true, true, true, true, true, true, true, true, true, true, true, true, true, true, true, true, true, true, true, true] rfl rfl (by kernel_rfl) (fun _ _ _ h => h) (Or.inl ⟨by rfl, ?_⟩) ?_ ?_
  rotate_left
  · intro w'
    go_simp
    with_reducible rfl
  rotate_left
  · simp only [Act.put, List.setIfInBounds_toArray, List.set_cons_zero, List.set_cons_succ, i64_w, i32_w]
    rfl
  refine done_ (by kernel_rfl) ?_
  go_wp2
  go_ret
  refine ⟨rfl, ((Below.refl _ _).alloc (Nat.le_refl _) _).drew, by simp, fun k hk => ?_⟩
  have hb : ∀ (o : Array Value) t, (w.alloc (.cells o t)).heap[w.heap.size]? = some (.cells o t) := fun o t => heap_alloc_new w _
  match k, hk with
  | 0, _ => exact cell_blk (hb _ _) 0 _ rfl
  | 1, _ => exact cell_blk (hb _ _) 1 _ rfl
  | 2, _ => exact cell_blk (hb _ _) 2 _ rfl
  | 3, _ => exact cell_blk (hb _ _) 3 _ rfl
  | 4, _ => exact cell_blk (hb _ _) 4 _ rfl

set_option maxHeartbeats 8000000 in
set_option maxRecDepth 100000 in
theorem ChangeRule (p : Proto) (v : Value) (r : Rule) (t hd : Nat) (w : World) (hv : ProtoV w p v) (hp : validP p = true) (ht : t < 5) (hh : hd < 4) :
    Calls Try.prog 104 #[v, .int .i64 t, .int .i64 hd, .agg #[.int .i64 r.next, .int .i64 r.shared, .bool r.back]] w fun e w' => ∃ v' p' ok, e = .returned (.tuple #[v', .bool ok]) ∧ ProtoV w' p' v' ∧ (ok = true → validP p' = true) ∧ Below w.heap.size w w' := by
  have hlen : ∀ k, k < 5 → (p.tab k).length = 4 := fun k hk => ((validP_iff p).1 hp k hk).1
  obtain ⟨AA, cc, rfl, hT⟩ := hv.tabs
  have HT : Hid (∀ k, k < 5 → 4 ≤ cc k ∧ Kd.C kRule w (AA k) 4 (p.tab k)) := Lib.hid (fun k hk => by have := hT k hk; rwa [hlen k hk] at this)
  rw [hlen 0 (by omega), hlen 1 (by omega), hlen 2 (by omega), hlen 3 (by omega), hlen 4 (by omega)]
  have HLEN := Lib.hid hlen
  have HP := Lib.hid hp
  clear hT hv hp hlen
  obtain ⟨w1, hw1⟩ : ∃ w1, w1 = ((w.alloc (.cells #[.slice (AA 0) 4 (cc 0), .slice (AA 1) 4 (cc 1), .slice (AA 2) 4 (cc 2), .slice (AA 3) 4 (cc 3), .slice (AA 4) 4 (cc 4)] 50)).alloc (.cells #[.int .i64 r.next, .int .i64 r.shared, .bool r.back] 145)).alloc (.cells #[.slice none 0 0, .slice none 0 0, .slice none 0 0, .slice none 0 0, .slice none 0 0] 50) := ⟨_, rfl⟩
  have hbw : Below w.heap.size w w1 := by
    rw [hw1]; exact (((Below.refl _ _).alloc (Nat.le_refl _) _).alloc (by simp) _).alloc (by simp; omega) _
  have hs1 : w1.heap.size = w.heap.size + 3 := by rw [hw1]; simp
  have hx0 : w1.heap[w.heap.size]? = some (.cells #[.slice (AA 0) 4 (cc 0), .slice (AA 1) 4 (cc 1), .slice (AA 2) 4 (cc 2), .slice (AA 3) 4 (cc 3), .slice (AA 4) 4 (cc 4)] 50 (0, 0)) := by
    rw [hw1, Below.heap_alloc _ _ _ (by simp; omega), Below.heap_alloc _ _ _ (by simp)]; exact heap_alloc_new w _
  have hx1 : w1.heap[w.heap.size + 1]? = some (.cells #[.int .i64 r.next, .int .i64 r.shared, .bool r.back] 145 (0, 0)) := by
    rw [hw1, Below.heap_alloc _ _ _ (by simp)]; simpa using heap_alloc_new (w.alloc _) _
  have hx2 : w1.heap[w.heap.size + 2]? = some (.cells #[.slice none 0 0, .slice none 0 0, .slice none 0 0, .slice none 0 0, .slice none 0 0] 50 (0, 0)) := by
    rw [hw1]; simpa using heap_alloc_new ((w.alloc _).alloc _) _
  have hPB : ProtoB w1 w.heap.size p := by
    intro k hk
    have hC := Kd.C_below (HT.out k hk).2 hbw
    rw [HLEN.out k hk]
    match k, hk with
    | 0, _ => exact ⟨AA 0, cc 0, cell_blk hx0 0 _ rfl, (HT.out 0 (by omega)).1, hC⟩
    | 1, _ => exact ⟨AA 1, cc 1, cell_blk hx0 1 _ rfl, (HT.out 1 (by omega)).1, hC⟩
    | 2, _ => exact ⟨AA 2, cc 2, cell_blk hx0 2 _ rfl, (HT.out 2 (by omega)).1, hC⟩
    | 3, _ => exact ⟨AA 3, cc 3, cell_blk hx0 3 _ rfl, (HT.out 3 (by omega)).1, hC⟩
    | 4, _ => exact ⟨AA 4, cc 4, cell_blk hx0 4 _ rfl, (HT.out 4 (by omega)).1, hC⟩
  have HX0 := Lib.hid hx0
  have HX1 := Lib.hid hx1
  have HX2 := Lib.hid hx2
  have HBW := Lib.hid hbw
  have HS1 := Lib.hid hs1
  have HPB := Lib.hid hPB
  have hin1 : Hid (inR (t : Int) 0 4 = true) := Lib.hid (by simp [inR]; omega)
  have hin2 : Hid (isCp (hd : Int) = true) := Lib.hid (by simp [isCp, inR]; omega)
  clear hx0 hx1 hx2 hbw hs1 hPB
  go_enter Try.func104, Try.ntmps104
  go_wp2_with fail
  rw [← hw1]
  refine (l10Is w.heap.size p _ HPB.out).mono ?_
  rintro e w2 ⟨rfl, hb2⟩
  rw [HP.out]
  have Hb2 := Lib.hid hb2
  clear hb2
  go_wp2_with fail
  refine (l00In _ _ _ _).mono ?_
  rintro e w3 ⟨rfl, rfl⟩
  rw [hin1.out]
  go_wp2_with fail
  refine (l10Copy _ _).mono ?_
  rintro e w3 ⟨rfl, rfl⟩
  rw [hin2.out]
  go_wp2_with fail
  refine (l10Own w.heap.size p _ AA cc (fun k hk => ⟨?_, (HT.out k hk).1, Kd.C_below (Kd.C_below (HT.out k hk).2 HBW.out) Hb2.out⟩)).mono ?_
  · have hr := (Hb2.out.block w.heap.size (by have := HS1.out; omega)).trans HX0.out
    match k, hk with
    | 0, _ => exact cell_blk hr 0 _ rfl
    | 1, _ => exact cell_blk hr 1 _ rfl
    | 2, _ => exact cell_blk hr 2 _ rfl
    | 3, _ => exact cell_blk hr 3 _ rfl
    | 4, _ => exact cell_blk hr 4 _ rfl
  rintro e w4 ⟨X, C, rfl, hb4, hR, hXX⟩
  have Hb4 := Lib.hid hb4
  have HR := Lib.hid hR
  have HXX := Lib.hid hXX
  clear hb4 hR hXX
  go_wp2_with fail
  obtain ⟨w5, hw5⟩ : ∃ w5, w5 = w4.alloc (.cells #[.slice (some ⟨X 0, 0, none⟩) 4 (C 0), .slice (some ⟨X 1, 0, none⟩) 4 (C 1), .slice (some ⟨X 2, 0, none⟩) 4 (C 2), .slice (some ⟨X 3, 0, none⟩) 4 (C 3), .slice (some ⟨X 4, 0, none⟩) 4 (C 4)] 50) := ⟨_, rfl⟩
  obtain ⟨g, hg⟩ : ∃ g, w4.heap.size = g := ⟨_, rfl⟩
  have hblk : w5.heap[g]? = some (.cells #[.slice (some ⟨X 0, 0, none⟩) 4 (C 0), .slice (some ⟨X 1, 0, none⟩) 4 (C 1), .slice (some ⟨X 2, 0, none⟩) 4 (C 2), .slice (some ⟨X 3, 0, none⟩) 4 (C 3), .slice (some ⟨X 4, 0, none⟩) 4 (C 4)] 50 (0, 0)) := by rw [hw5, ← hg]; exact heap_alloc_new w4 _
  have hb45 : Below w4.heap.size w4 w5 := by rw [hw5]; exact (Below.refl _ _).alloc (Nat.le_refl _) _
  have hb15 : Below w1.heap.size w1 w5 := (Hb2.out.trans (Hb4.out.mono Hb2.out.size)).trans (hb45.mono (Nat.le_trans Hb2.out.size Hb4.out.size))
  have hr := (hb15.block (w.heap.size + 1) (by have := HS1.out; omega)).trans HX1.out
  have r0 := cell_blk hr 0 _ rfl
  have r1 := cell_blk hr 1 _ rfl
  have r2 := cell_blk hr 2 _ rfl
  have hR5 : ∀ i, i < 5 → kRule.R 145 w5 w3.heap.size (fun k => k = X i) (.slice (some ⟨X i, 0, none⟩) 4 (C i)) (p.tab i) := fun i hi => Kd.R_below (HR.out i hi) hb45
  have hXg : ∀ i, i < 5 → w3.heap.size ≤ X i ∧ X i < g := fun i hi => by
    obtain ⟨_, _, e1, h1, h2, _, _⟩ := Kd.R_form (HR.out i hi) (by rw [HLEN.out i hi]; omega)
    injection e1 with e1; injection e1 with e1; injection e1 with e1; subst e1; exact ⟨h1, by omega⟩
  have hgc : ∀ k, k < 5 → w5.cell? ⟨g, k, none⟩ = some (.slice (some ⟨X k, 0, none⟩) 4 (C k)) := fun k hk => by
    match k, hk with
    | 0, _ => exact cell_blk hblk 0 _ rfl
    | 1, _ => exact cell_blk hblk 1 _ rfl
    | 2, _ => exact cell_blk hblk 2 _ rfl
    | 3, _ => exact cell_blk hblk 3 _ rfl
    | 4, _ => exact cell_blk hblk 4 _ rfl
  have HG5 : Hid (w5.heap.size = g + 1) := Lib.hid (by rw [hw5]; simp [hg])
  have HGC := Lib.hid hgc
  have HR5 := Lib.hid hR5
  have HXG := Lib.hid hXg
  have HBLK := Lib.hid hblk
  have HB15 := Lib.hid hb15
  rw [← hw5, hg]
  clear hgc hR5 hXg hblk hb15 hb45 hr hw5 hg hw1 HX0 HX1
  have bt : ((t : Int) < 5) = True := eq_true (by omega)
  have bh : ((hd : Int) < 4) = True := eq_true (by omega)
  refine start_ (n := 8) (S := fun w' => w'.cell? ⟨w.heap.size + 1, 0, none⟩ = some (.int .i64 r.next) ∧ w'.cell? ⟨w.heap.size + 1, 1, none⟩ = some (.int .i64 r.shared) ∧ w'.cell? ⟨w.heap.size + 1, 2, none⟩ = some (.bool r.back)) (ds := [7]) #[false, false, false, false, false, false, false, false] (by kernel_rfl) rfl rfl ⟨r0, r1, r2⟩ (fun hHeld => ?_)
  refine pure_ (i := 1) (N := some 26) (v := ?_) (a' := ?_) #[false, true, false, false, false, false, false, false] rfl rfl (by kernel_rfl) (fun _ _ _ h => h) (Or.inl ⟨by rfl, ?_⟩) ?_ ?_
  rotate_left
  · intro w'
    go_simp
    with_reducible rfl
  rotate_left
  · simp only [Act.put, List.setIfInBounds_toArray, List.set_cons_zero, List.set_cons_succ, i64_w, i32_w]
    rfl
  refine pure_ (i := 4) (N := some 29) (v := ?_) (a' := ?_) #[false, true, false, false, true, false, false, false] rfl rfl (by kernel_rfl) (fun _ _ _ h => h) (Or.inl ⟨by rfl, ?_⟩) ?_ ?_
  rotate_left
  · intro w'
    go_simp
    with_reducible rfl
  rotate_left
  · simp only [Act.put, List.setIfInBounds_toArray, List.set_cons_zero, List.set_cons_succ, i64_w, i32_w]
    rfl
  refine take_ (i := 5) (N := some 30) (v := ?_) (a' := ?_) #[false, true, false, false, true, true, false, false] rfl rfl (by kernel_rfl) (fun _ _ _ h => h) (Or.inl ⟨by rfl, ?_⟩) hHeld ?_ ?_
  rotate_left
  · rintro w' ⟨s0, s1, s2⟩
    go_simp
    with_reducible rfl
  rotate_left
  · simp only [Act.put, List.setIfInBounds_toArray, List.set_cons_zero, List.set_cons_succ, i64_w, i32_w]
    rfl
  refine one_ (i := 0) (N := some 25) #[true, true, false, false, true, true, false, false] rfl rfl (by kernel_rfl) (by decide) (fun K hK => ?_)
  refine goes_ Try.func103 (by kernel_rfl) rfl #[.pointer (some ⟨g, 0, none⟩)] (by rfl) rfl rfl (by simp only [List.map_toArray, List.map_cons, List.map_nil]; rfl) ?_
  with_reducible refine (l10TablesX g (fun k => some ⟨X k, 0, none⟩) (fun _ => 4) C _ (fun k hk => cell_old ((Below.refl _ _).drew) (HGC.out k hk))).mono ?_
  rintro e w6 ⟨rfl, hb6, hl6, ht6⟩
  refine ⟨_, rfl, ?_⟩
  have HT6 := Lib.hid ht6
  have Hb6 := Lib.hid hb6
  have tc : w6.cell? ⟨w5.heap.size, t, none⟩ = some (.slice (some ⟨X t, 0, none⟩) 4 (C t)) := ht6 t ht
  clear hb6 ht6 hl6
  refine hK.out _ _ ⟨(cell_old Hb6.out (by exact r0)), (cell_old Hb6.out (by exact r1)), (cell_old Hb6.out (by exact r2))⟩ (fun hHeld => ?_)
  clear hK K
  refine norm_ (a' := ?_) ?_ ?_
  rotate_left
  · show Act.put _ (some 25) _ = _
    simp only [Act.put, List.setIfInBounds_toArray, List.set_cons_zero, List.set_cons_succ, i64_w, i32_w]
    rfl
  refine pure_ (i := 2) (N := some 27) (v := ?_) (a' := ?_) #[true, true, true, false, true, true, false, false] rfl rfl (by kernel_rfl) (fun _ _ _ h => h) (Or.inl ⟨by rfl, ?_⟩) ?_ ?_
  rotate_left
  · intro w'
    go_simp
    with_reducible rfl
  rotate_left
  · simp only [Act.put, List.setIfInBounds_toArray, List.set_cons_zero, List.set_cons_succ, i64_w, i32_w]
    rfl
  refine one_ (i := 3) (N := some 28) #[true, true, true, true, true, true, false, false] rfl rfl (by kernel_rfl) (by decide) (fun K hK => ?_)
  refine value_ (w1 := ?_) (v := ?_) (by rfl) rfl ?_ ?_
  rotate_left 2
  · go_simp
    constructor
    · rfl
    · rfl
  refine hK.out _ _ ⟨(cell_old Hb6.out (by exact r0)), (cell_old Hb6.out (by exact r1)), (cell_old Hb6.out (by exact r2))⟩ (fun hHeld => ?_)
  clear hK K
  refine norm_ (a' := ?_) ?_ ?_
  rotate_left
  · show Act.put _ (some 28) _ = _
    simp only [Act.put, List.setIfInBounds_toArray, List.set_cons_zero, List.set_cons_succ, i64_w, i32_w]
    rfl
  refine pure_ (i := 6) (N := some 31) (v := ?_) (a' := ?_) #[true, true, true, true, true, true, true, false] rfl rfl (by kernel_rfl) (fun _ _ _ h => h) (Or.inl ⟨by rfl, ?_⟩) ?_ ?_
  rotate_left
  · intro w'
    go_simp
    with_reducible rfl
  rotate_left
  · simp only [Act.put, List.setIfInBounds_toArray, List.set_cons_zero, List.set_cons_succ, i64_w, i32_w]
    rfl
  refine last_ (i := 7) (N := none) #[true, true, true, true, true, true, true, true] rfl rfl (by kernel_rfl) (by decide) (fun K hK => ?_)
  obtain ⟨c0, hcl, hM, hcc, hfr⟩ := Kd.R_elem (Kd.R_step (HR5.out t ht) (fun k _ hlt => Hb6.out.block k hlt)) Rule.z (hd : Int) (by omega) (by omega)
  obtain rfl := kRule_open (kRule.K_of_M hM)
  obtain ⟨o0, z0⟩ : ∃ o0, w6.cell? ⟨X t, hd * 3, none⟩ = some o0 := ⟨_, hcc 0 _ rfl⟩
  obtain ⟨o1, z1⟩ : ∃ o1, w6.cell? ⟨X t, hd * 3 + 1, none⟩ = some o1 := ⟨_, hcc 1 _ rfl⟩
  obtain ⟨o2, z2⟩ : ∃ o2, w6.cell? ⟨X t, hd * 3 + 2, none⟩ = some o2 := ⟨_, hcc 2 _ rfl⟩
  have zf0 : w6.frozen? ⟨X t, hd * 3, none⟩ = false := hfr 0
  have zf1 : w6.frozen? ⟨X t, hd * 3 + 1, none⟩ = false := hfr 1
  have zf2 : w6.frozen? ⟨X t, hd * 3 + 2, none⟩ = false := hfr 2
  clear hcc hfr hcl hM
  refine skip_ (w1 := ?_) (by rfl) rfl ?_ ?_
  rotate_left
  · go_simp
    rfl
  refine hK.out _ _ ?_
  clear hK K
  refine done_ (by kernel_rfl) ?_
  clear r0 r1 r2 tc z0 z1 z2 zf0 zf1 zf2 bt bh
  have hR6 : ∀ i, i < 5 → kRule.R 145 w6 w3.heap.size (fun k => k = X i) (.slice (some ⟨X i, 0, none⟩) 4 (C i)) (p.tab i) := fun i hi => Kd.R_step (HR5.out i hi) (fun k _ hlt => Hb6.out.block k hlt)
  obtain ⟨w7, hw7⟩ : ∃ w7, w7 = ((w6.setCell ⟨X t, hd * 3, none⟩ (.int .i64 r.next)).setCell ⟨X t, hd * 3 + 1, none⟩ (.int .i64 r.shared)).setCell ⟨X t, hd * 3 + 2, none⟩ (.bool r.back) := ⟨_, rfl⟩
  obtain ⟨p', hp'⟩ : ∃ p', p' = p.put t ((p.tab t).set hd r) := ⟨_, rfl⟩
  have htab : ∀ i, i < 5 → p'.tab i = if i = t then (p.tab t).set hd r else p.tab i := fun i hi => by rw [hp']; exact Proto.put_tab p t i _ ht hi
  have hlen' : ∀ i, i < 5 → (p'.tab i).length = 4 := fun i hi => by
    rw [htab i hi]; split
    · rw [List.length_set]; exact HLEN.out t ht
    · exact HLEN.out i hi
  have hR7 : ∀ i, i < 5 → kRule.R 145 w7 w3.heap.size (fun k => k = X i) (.slice (some ⟨X i, 0, none⟩) 4 (C i)) (p'.tab i) := fun i hi => by
    rw [htab i hi, hw7]
    by_cases e : i = t
    · subst e; rw [if_pos rfl]; exact R_putRule (hR6 i hi) hd hh r
    · rw [if_neg e]
      have hne : ∀ k, k = X i → k ≠ X t := fun k hk => by subst hk; exact HXX.out i t hi ht e
      exact Kd.R_far (Kd.R_far (Kd.R_far (hR6 i hi) (p := ⟨X t, hd * 3, none⟩) hne _) (p := ⟨X t, hd * 3 + 1, none⟩) hne _) (p := ⟨X t, hd * 3 + 2, none⟩) hne _
  have hg7 : w7.heap[g]? = w5.heap[g]? := by
    have hne : g ≠ X t := by have := (HXG.out t ht).2; omega
    rw [hw7, Below.heap_setCell _ _ _ _ hne, Below.heap_setCell _ _ _ _ hne, Below.heap_setCell _ _ _ _ hne]
    exact Hb6.out.block g (by show g < w5.heap.size; have := HG5.out; omega)
  have hB7 : Below w1.heap.size w1 w7 := by
    rw [hw7]
    have hx : w1.heap.size ≤ X t := Nat.le_trans Hb2.out.size (HXG.out t ht).1
    have h6 : Below w1.heap.size w1 w6 := (HB15.out.trans ((Below.refl w1.heap.size w5).drew)).trans (Hb6.out.mono HB15.out.size)
    exact ((h6.setCell (p := ⟨X t, hd * 3, none⟩) hx _).setCell (p := ⟨X t, hd * 3 + 1, none⟩) hx _).setCell (p := ⟨X t, hd * 3 + 2, none⟩) hx _
  have hblk7 := hg7.trans HBLK.out
  have HR7 := Lib.hid hR7
  have HB7 := Lib.hid hB7
  have HK7 := Lib.hid hblk7
  have HLEN' := Lib.hid hlen'
  rw [← hw7]
  clear hR6 hw7 hp' htab hlen' hR7 hg7 hB7 hblk7
  have hPB7 : ProtoB w7 g p' := by
    intro k hk
    obtain ⟨_, hc, hC⟩ := R_len (HR7.out k hk)
    rw [HLEN'.out k hk]
    refine ⟨some ⟨X k, 0, none⟩, C k, ?_, hc, hC⟩
    match k, hk with
    | 0, _ => exact cell_blk HK7.out 0 _ rfl
    | 1, _ => exact cell_blk HK7.out 1 _ rfl
    | 2, _ => exact cell_blk HK7.out 2 _ rfl
    | 3, _ => exact cell_blk HK7.out 3 _ rfl
    | 4, _ => exact cell_blk HK7.out 4 _ rfl
  have HPB7 := Lib.hid hPB7
  clear hPB7
  go_wp2_with fail
  refine (l10Is g p' _ HPB7.out).mono ?_
  rintro e w8 ⟨rfl, hb8⟩
  have HB8 := Lib.hid hb8
  have hr8 : w8.heap[w.heap.size + 2]? = _ := (hb8.block _ (by have := HB7.out.size; have := HS1.out; omega)).trans ((HB7.out.block _ (by have := HS1.out; omega)).trans HX2.out)
  have hg8 : w8.heap[g]? = _ := (hb8.block g (heap_lt HK7.out)).trans HK7.out
  have q0 := cell_blk hr8 0 _ rfl
  have q0f := Lib.frozen_of_heap hr8 0
  have g0 := cell_blk hg8 0 _ rfl
  have q1 := cell_blk hr8 1 _ rfl
  have q1f := Lib.frozen_of_heap hr8 1
  have g1 := cell_blk hg8 1 _ rfl
  have q2 := cell_blk hr8 2 _ rfl
  have q2f := Lib.frozen_of_heap hr8 2
  have g2 := cell_blk hg8 2 _ rfl
  have q3 := cell_blk hr8 3 _ rfl
  have q3f := Lib.frozen_of_heap hr8 3
  have g3 := cell_blk hg8 3 _ rfl
  have q4 := cell_blk hr8 4 _ rfl
  have q4f := Lib.frozen_of_heap hr8 4
  have g4 := cell_blk hg8 4 _ rfl
  have HBE : Hid (Below w.heap.size w w8) := Lib.hid ((HBW.out.trans (HB7.out.mono (by have := HS1.out; omega))).trans (hb8.mono (by have := HB7.out.size; have := HS1.out; omega)))
  clear hr8 hg8 hb8
  cases hvp : validP p' with
  | true =>
    have HVP := Lib.hid hvp
    clear hvp
    go_wp2_with fail
    have hC : ∀ i, i < 5 → kRule.R 145 (((((w8.setCell ⟨w.heap.size + 2, 0, none⟩ (.slice (some ⟨X 0, 0, none⟩) 4 (C 0))).setCell ⟨w.heap.size + 2, 1, none⟩ (.slice (some ⟨X 1, 0, none⟩) 4 (C 1))).setCell ⟨w.heap.size + 2, 2, none⟩ (.slice (some ⟨X 2, 0, none⟩) 4 (C 2))).setCell ⟨w.heap.size + 2, 3, none⟩ (.slice (some ⟨X 3, 0, none⟩) 4 (C 3))).setCell ⟨w.heap.size + 2, 4, none⟩ (.slice (some ⟨X 4, 0, none⟩) 4 (C 4))) w3.heap.size (fun k => k = X i) (.slice (some ⟨X i, 0, none⟩) 4 (C i)) (p'.tab i) := fun i hi => by
      have h8 := Kd.R_below (HR7.out i hi) HB8.out
      have hne : ∀ k, k = X i → k ≠ w.heap.size + 2 := fun k hk => by have := (HXG.out i hi).1; have := Hb2.out.size; have := HS1.out; omega
      exact Kd.R_far (Kd.R_far (Kd.R_far (Kd.R_far (Kd.R_far h8 (p := ⟨w.heap.size + 2, 0, none⟩) hne _) (p := ⟨w.heap.size + 2, 1, none⟩) hne _) (p := ⟨w.heap.size + 2, 2, none⟩) hne _) (p := ⟨w.heap.size + 2, 3, none⟩) hne _) (p := ⟨w.heap.size + 2, 4, none⟩) hne _
    refine bodyPost_ret (v := .tuple #[.agg #[.slice (some ⟨X 0, 0, none⟩) 4 (C 0), .slice (some ⟨X 1, 0, none⟩) 4 (C 1), .slice (some ⟨X 2, 0, none⟩) 4 (C 2), .slice (some ⟨X 3, 0, none⟩) 4 (C 3), .slice (some ⟨X 4, 0, none⟩) 4 (C 4)], .bool true]) (by simp [results, Try.results104, go_sem, q0, q1, q2, q3, q4]) rfl ⟨_, p', true, rfl, proto_mk5 (hC 0 (by omega)) (hC 1 (by omega)) (hC 2 (by omega)) (hC 3 (by omega)) (hC 4 (by omega)), fun _ => HVP.out, (((((HBE.out.setCell (p := ⟨w.heap.size + 2, 0, none⟩) (by simp) _).setCell (p := ⟨w.heap.size + 2, 1, none⟩) (by simp) _).setCell (p := ⟨w.heap.size + 2, 2, none⟩) (by simp) _).setCell (p := ⟨w.heap.size + 2, 3, none⟩) (by simp) _).setCell (p := ⟨w.heap.size + 2, 4, none⟩) (by simp) _)⟩
  | false =>
    go_wp2_with fail
    refine bodyPost_ret (v := .tuple #[.agg #[.slice none 0 0, .slice none 0 0, .slice none 0 0, .slice none 0 0, .slice none 0 0], .bool false]) (by simp [results, Try.results104, go_sem, q0, q1, q2, q3, q4]) rfl ⟨_, _, false, rfl, ProtoV.zero _, (fun h => by cases h), (((((HBE.out.setCell (p := ⟨w.heap.size + 2, 0, none⟩) (by simp) _).setCell (p := ⟨w.heap.size + 2, 1, none⟩) (by simp) _).setCell (p := ⟨w.heap.size + 2, 2, none⟩) (by simp) _).setCell (p := ⟨w.heap.size + 2, 3, none⟩) (by simp) _).setCell (p := ⟨w.heap.size + 2, 4, none⟩) (by simp) _)⟩
end Go.Proofs.Ytfeabjiccnnpcaa.Ca
