import Derived.Test.YtfeabjiccnnpcaaXb
set_option linter.unusedVariables false
set_option linter.unusedSimpArgs false
namespace Go.Proofs.Ytfeabjiccnnpcaa.Ca
open Go.RowKit Go.Proofs.YtfeabjiccnnpcaaW.PrintWords Go.Proofs.YtfeabjiccnnpcaaW.PrintLast Go.Proofs.Ytfeabjiccnnpcaa.Ba Go.Proofs.Ytfeabjiccnnpcaa.Bfs Go.Proofs.Ytfeabjiccnnpcaa.Mp

theorem law9 : Go.Maps.Keyed Try.prog 9 := Go.Maps.string_keyed Try.underlying9
theorem zero4 (w : World) : (zeroValue 4).run Try.prog w = .ok (.bool false) w := by kernel_rfl
theorem keyS_len {n : Nat} (hn : n ≤ 3) {x : Sys} (hx : x.Ok n) : (keyS x).length ≤ 7 := by
  have := keyTo_len x x.cs.length
  rw [hx.lc] at this
  simp only [keyS, hx.lc, List.length_append]
  split <;> simp <;> omega
theorem keyOf_key {n : Nat} (hn : n ≤ 3) {x : Sys} (hx : x.Ok n) : keyOf Try.prog 9 (.string ⟨(keyS x).toArray⟩) = some (.string (keyS x)) := by
  have := Go.WideMaps.keyOf_string_mk Try.underlying9 (s := ⟨(keyS x).toArray⟩) (by rw [size_of_list]; have := keyS_len hn hx; unfold maxLen; omega)
  simpa using this
theorem Q_first {w W : World} {n a b s : Nat} (es : W.heap.size = s) (ha : (Kd.int .i64).R 2 W w.heap.size (fun _ => True) (.slice (some ⟨a, 0, none⟩) n n) (first n).cs) (hb : Kd.bool.R 4 W w.heap.size (fun _ => True) (.slice (some ⟨b, 0, none⟩) n n) (first n).fs) (hB : w.heap.size ≤ W.heap.size) :
    kRea.Q 205 (W.alloc (.cells #[.slice (some ⟨a, 0, none⟩) n n, .slice (some ⟨b, 0, none⟩) n n, .bool true, .slice none 0 0] 205)) w.heap.size (fun _ => True) (.slice (some ⟨s, 0, none⟩) 1 1) [(first n, [])] := by
  subst es
  refine Kd.Q_of_R ⟨fun _ _ => trivial, [.slice (some ⟨a, 0, none⟩) n n, .slice (some ⟨b, 0, none⟩) n n, .bool true, .slice none 0 0], ?_, ?_⟩
  · have h := World.ownsRow_lit (base := w.heap.size) (e := 205) (size := 4) W #[.slice (some ⟨a, 0, none⟩) n n, .slice (some ⟨b, 0, none⟩) n n, .bool true, .slice none 0 0] 1 hB (by simp [maxLen]) (by simp)
    rw [show kRea.sz = 4 from rfl]
    simpa using h
  · have h : kRea.M (W.alloc (.cells #[.slice (some ⟨a, 0, none⟩) n n, .slice (some ⟨b, 0, none⟩) n n, .bool true, .slice none 0 0] 205)) w.heap.size (fun k => True ∧ some k ≠ (Value.slice (some ⟨W.heap.size, 0, none⟩) 1 1).ownBlock) (first n, []) ([.slice (some ⟨a, 0, none⟩) n n, .slice (some ⟨b, 0, none⟩) n n, .bool (first n).m] ++ [.slice none 0 0]) :=
      kRea_mkM (q := (first n, [])) (kSys_mkM (Kd.R_alloc (Kd.R_mono (Kd.R_bound ha) (fun k hk => ⟨trivial, by have := hk.2.2.1; simp [Value.ownBlock]; omega⟩)) _) (Kd.R_alloc (Kd.R_mono (Kd.R_bound hb) (fun k hk => ⟨trivial, by have := hk.2.2.1; simp [Value.ownBlock]; omega⟩)) _)) (Kd.R_nil _ _ _ _ _)
    exact Reps.snoc (Reps.none _ _) h rfl
theorem key_first (A B : Option Addr) (n c d : Nat) (w : World) (h0 : 0 < n) (hn : n ≤ 3) (hA : Kd.C (Kd.int .i64) w A n (first n).cs) (hB : Kd.C Kd.bool w B n (first n).fs) :
    Calls Try.prog 153 #[.agg #[.slice A n c, .slice B n d, .bool true]] w fun e w' => e = .returned (.string ⟨(keyS (first n)).toArray⟩) ∧ Below w.heap.size w w' := key153 A B n c d (first n) w h0 hn (Sys.Ok.first n) hA hB
theorem cel4 {w : World} {b : Nat} {x0 x1 x2 x3 : Value} {t : TypeId} {fr : Nat × Nat} (h : w.heap[b]? = some (.cells #[x0, x1, x2, x3] t fr)) : w.cell? ⟨b, 0, none⟩ = some x0 ∧ w.cell? ⟨b, 1, none⟩ = some x1 ∧ w.cell? ⟨b, 2, none⟩ = some x2 ∧ w.cell? ⟨b, 3, none⟩ = some x3 :=
  ⟨cell_blk h 0 _ rfl, cell_blk h 1 _ rfl, cell_blk h 2 _ rfl, cell_blk h 3 _ rfl⟩
theorem FlawV.eqNil {w : World} {base : Nat} {v : Value} {o : Option (List Op)} (h : FlawV w base v o) : ∀ W : World, (binOp .eql 52 v (.slice none 0 0)).run Try.prog W = .ok (.bool o.isNone) W := by
  cases o with
  | none =>
    have e : v = .slice none 0 0 := h
    subst e
    intro W
    exact Lib.run_eql_slice_nil W 52 72 none 0 0 0 0 Try.underlying52
  | some f =>
    obtain ⟨g, c, rfl, _⟩ := Kd.R_form h.2 (List.length_pos_iff.2 h.1)
    intro W
    exact Lib.run_eql_slice_nil W 52 72 (some ⟨g, 0, none⟩) f.length c 0 0 Try.underlying52
theorem FlawV.shape {w : World} {base : Nat} {v : Value} {o : Option (List Op)} (h : FlawV w base v o) : ∃ A n c, v = .slice A n c := by
  cases o with
  | none => exact ⟨_, _, _, h⟩
  | some f => obtain ⟨A, c, e⟩ := Kd.R_slice h.2; exact ⟨_, _, _, e⟩
theorem C_oneOp (W : World) (k c : Int) (s : Nat) (hs : W.heap.size = s) : kOp.C (W.alloc (.cells #[.int .i64 k, .int .i64 c] 72)) (some ⟨s, 0, none⟩) 1 [⟨k, c⟩] := by
  subst hs
  have h := World.ownsRow_lit (base := 0) (e := 72) (size := 2) W #[.int .i64 k, .int .i64 c] 1 (Nat.zero_le _) (by simp [maxLen]) (by simp)
  have hr : kOp.R 72 (W.alloc (.cells #[.int .i64 k, .int .i64 c] 72)) 0 (fun _ => True) (.slice (some ⟨W.heap.size, 0, none⟩) 1 1) [⟨k, c⟩] :=
    ⟨fun _ _ => trivial, [.int .i64 k, .int .i64 c], by rw [show kOp.sz = 2 from rfl]; simpa using h, Reps.snoc (Reps.none _ _) (kOp_mkM _ _ _ (⟨k, c⟩ : Op)) rfl⟩
  exact (R_len hr).2.2
theorem one_of {B s : Nat} {w W : World} {k c : Nat} (h : Below B w W) (e : W.heap.size = s) : kOp.C (W.alloc (.cells #[.int .i64 k, .int .i64 c] 72)) (some ⟨s, 0, none⟩) 1 [⟨(k : Int), (c : Int)⟩] := C_oneOp W k c s e
/-- the protocol's box -/
def PBx (w wr : World) (p : Proto) (AA : Nat → Option Addr) (cc : Nat → Nat) : Prop := wr.heap[w.heap.size]? = some (.cells #[.slice (AA 0) (p.tab 0).length (cc 0), .slice (AA 1) (p.tab 1).length (cc 1), .slice (AA 2) (p.tab 2).length (cc 2), .slice (AA 3) (p.tab 3).length (cc 3), .slice (AA 4) (p.tab 4).length (cc 4)] 50 (0, 0))
theorem PBx.after {w wr w1 : World} {p : Proto} {AA : Nat → Option Addr} {cc : Nat → Nat} (h : PBx w wr p AA cc) (hb : Below wr.heap.size wr w1) : PBx w w1 p AA cc := (hb.block _ (heap_lt h)).trans h
theorem PBx.grown {w wr w1 : World} {p : Proto} {AA : Nat → Option Addr} {cc : Nat → Nat} {row : Option Nat} (h : PBx w wr p AA cc) (hg : wr.grownBy w1 row) (hne : some w.heap.size ≠ row) : PBx w w1 p AA cc := (hg.block _ (heap_lt h) hne).trans h
theorem made_of {B s : Nat} {w W : World} (h : Below B w W) (e : W.heap.size = s) : MapV (W.alloc (.map #[] 0)) Try.prog 9 s 0 (fun _ => Option.none) := by subst e; exact MapV.made W _ _
theorem SeenF.none (n : Nat) : SeenF n [] (fun _ => Option.none) := fun x _ => by simp

set_option maxHeartbeats 8000000 in
set_option maxRecDepth 100000 in
theorem explore (p : Proto) (v : Value) (n : Nat) (w : World) (hv : ProtoV w p v) (hp : validP p = true) (h0 : 0 < n) (hn : n ≤ 3) :
    Calls Try.prog 88 #[v, .int .i64 n] w fun e w' => ∃ vs vf i, e = .returned (.tuple #[vs, vf]) ∧ (bfsS p n i).1.length ≤ i ∧ kSys.R 60 w' w.heap.size (fun _ => True) vs ((bfsS p n i).1.map Prod.fst) ∧ FlawV w' w.heap.size vf (bfsS p n i).2 ∧ Below w.heap.size w w' := by
  have HV := Lib.hid hv
  have HP := Lib.hid hp
  have hmm := @run_makeMap Try.prog
  obtain ⟨AA, cc, rfl, hT⟩ := hv.tabsX
  clear hv hp hT
  -- the protocol's box
  have hblk : (w.alloc (.cells #[.slice (AA 0) (p.tab 0).length (cc 0), .slice (AA 1) (p.tab 1).length (cc 1), .slice (AA 2) (p.tab 2).length (cc 2), .slice (AA 3) (p.tab 3).length (cc 3), .slice (AA 4) (p.tab 4).length (cc 4)] 50)).heap[w.heap.size]? = some (.cells #[.slice (AA 0) (p.tab 0).length (cc 0), .slice (AA 1) (p.tab 1).length (cc 1), .slice (AA 2) (p.tab 2).length (cc 2), .slice (AA 3) (p.tab 3).length (cc 3), .slice (AA 4) (p.tab 4).length (cc 4)] 50 (0, 0)) := heap_alloc_new w _
  have HBLK := Lib.hid hblk
  have HB0 : Hid (Below w.heap.size w (w.alloc (.cells #[.slice (AA 0) (p.tab 0).length (cc 0), .slice (AA 1) (p.tab 1).length (cc 1), .slice (AA 2) (p.tab 2).length (cc 2), .slice (AA 3) (p.tab 3).length (cc 3), .slice (AA 4) (p.tab 4).length (cc 4)] 50))) := Lib.hid ((Below.refl _ _).alloc (Nat.le_refl _) _)
  clear hblk
  go_enter Try.func88, Try.ntmps88
  go_wp2_with fail
  refine (firstSystem n _ h0 hn).mono ?_
  rintro e w2 ⟨a, b, rfl, hra, hrb, hb2⟩
  have hz : w.heap.size + 1 ≤ w2.heap.size := by have := hb2.size; simp at this; omega
  have hga : w.heap.size + 1 ≤ a := by
    obtain ⟨_, _, e1, h1, h2, _, _⟩ := Kd.R_form hra (by simp [first]; omega)
    injection e1 with e1; injection e1 with e1; injection e1 with e1; subst e1; simpa using h1
  have hgb : w.heap.size + 1 ≤ b := by
    obtain ⟨_, _, e1, h1, h2, _, _⟩ := Kd.R_form hrb (by simp [first]; omega)
    injection e1 with e1; injection e1 with e1; injection e1 with e1; subst e1; simpa using h1
  have hblk2 := (hb2.block w.heap.size (by simp)).trans HBLK.out
  have HBLK2 := Lib.hid hblk2
  have HB2 : Hid (Below w.heap.size w w2) := Lib.hid (HB0.out.trans (hb2.mono (by simp)))
  have HRA := Lib.hid (R_raise (base := w.heap.size) (ok' := fun _ => True) hra (by omega) trivial)
  have HRB := Lib.hid (R_raise (base := w.heap.size) (ok' := fun _ => True) hrb (by omega) trivial)
  have HZ := Lib.hid hz
  clear hra hrb hb2 hz hga hgb hblk2 HBLK HB0
  have hx0 := heap_alloc_new w2 (.cells #[.slice (some ⟨a, 0, none⟩) n n, .slice (some ⟨b, 0, none⟩) n n, .bool true] 60)
  obtain ⟨c0, c1, c2⟩ := cel3 hx0
  clear hx0
  go_wp2_with fail
  obtain ⟨w3, hw3⟩ : ∃ w3, w3 = w2.alloc (.cells #[.slice (some ⟨a, 0, none⟩) n n, .slice (some ⟨b, 0, none⟩) n n, .bool true] 60) := ⟨_, rfl⟩
  obtain ⟨g6, hg6⟩ : ∃ g6, w2.heap.size = g6 := ⟨_, rfl⟩
  rw [← hw3, hg6] at c0 c1 c2
  have hb23 : Below w2.heap.size w2 w3 := by rw [hw3]; exact (Below.refl _ _).alloc (Nat.le_refl _) _
  have HRA3 := Lib.hid (Kd.R_below HRA.out hb23)
  have HRB3 := Lib.hid (Kd.R_below HRB.out hb23)
  have HB3 := Lib.hid (below_tr HB2.out hb23)
  have HBLK3 := Lib.hid ((hb23.block w.heap.size (by have := HZ.out; omega)).trans HBLK2.out)
  have HZ3 : Hid (w.heap.size + 1 ≤ w3.heap.size) := Lib.hid (by have := HZ.out; have := hb23.size; omega)
  rw [← hw3, hg6]
  clear hw3 hg6 hb23 HRA HRB HB2 HBLK2 HZ
  have hcb : ∀ w', Below w3.heap.size w3 w' → w'.cell? ⟨g6, 0, none⟩ = some (.slice (some ⟨a, 0, none⟩) n n) ∧ w'.cell? ⟨g6, 1, none⟩ = some (.slice (some ⟨b, 0, none⟩) n n) ∧ w'.cell? ⟨g6, 2, none⟩ = some (.bool true) := fun w' h => ⟨cell_old h c0, cell_old h c1, cell_old h c2⟩
  refine start_ (n := 10) (S := fun w' => w'.cell? ⟨g6, 0, none⟩ = some (.slice (some ⟨a, 0, none⟩) n n) ∧ w'.cell? ⟨g6, 1, none⟩ = some (.slice (some ⟨b, 0, none⟩) n n) ∧ w'.cell? ⟨g6, 2, none⟩ = some (.bool true) ∧ Below w3.heap.size w3 w') (ds := []) #[false, false, false, false, false, false, false, false, false, false] (by kernel_rfl) rfl rfl ⟨c0, c1, c2, (Below.refl _ _).drew⟩ (fun hHeld => ?_)
  refine take_ (i := 0) (N := some 22) (v := ?_) (a' := ?_) #[true, false, false, false, false, false, false, false, false, false] rfl rfl (by kernel_rfl) (fun _ _ _ h => h) (Or.inl ⟨by rfl, ?_⟩) hHeld ?_ ?_
  rotate_left
  · rintro w' ⟨s0, s1, s2, s3⟩
    go_simp
    with_reducible rfl
  rotate_left
  · simp only [Act.put, List.setIfInBounds_toArray, List.set_cons_zero, List.set_cons_succ, i64_w, i32_w]
    rfl
  refine pure_ (i := 1) (N := some 23) (v := ?_) (a' := ?_) #[true, true, false, false, false, false, false, false, false, false] rfl rfl (by kernel_rfl) (fun _ _ _ h => h) (Or.inl ⟨by rfl, ?_⟩) ?_ ?_
  rotate_left
  · intro w'
    go_simp
    with_reducible rfl
  rotate_left
  · simp only [Act.put, List.setIfInBounds_toArray, List.set_cons_zero, List.set_cons_succ, i64_w, i32_w]
    rfl
  refine take_ (i := 4) (N := some 26) (v := ?_) (a' := ?_) #[true, true, false, false, true, false, false, false, false, false] rfl rfl (by kernel_rfl) (fun _ _ _ h => h) (Or.inl ⟨by rfl, ?_⟩) hHeld ?_ ?_
  rotate_left
  · rintro w' ⟨s0, s1, s2, s3⟩
    go_simp
    with_reducible rfl
  rotate_left
  · simp only [Act.put, List.setIfInBounds_toArray, List.set_cons_zero, List.set_cons_succ, i64_w, i32_w]
    rfl
  refine join_ (σ := Nat × Nat) 1 #[true, true, true, true, true, true, true, true, true, false] (fun s => [(24, .slice (some ⟨s.1, 0, none⟩) 1 1), (25, .map (some s.2)), (27, .string ⟨(keyS (first n)).toArray⟩), (28, .map (some s.2)), (7, .slice (some ⟨s.1, 0, none⟩) 1 1)]) (fun s w' => kRea.Q 205 w' w.heap.size (fun _ => True) (.slice (some ⟨s.1, 0, none⟩) 1 1) [(first n, [])] ∧ (∃ f, MapV w' Try.prog 9 s.2 1 f ∧ SeenF n [first n] f) ∧ Below w3.heap.size w3 w' ∧ w3.heap.size ≤ s.2) ?_ ?_
  rotate_left
  · intro hCont
    refine three_ (i := 2) (j := 3) (k := 5) (Ni := some 24) (Nj := some 25) (Nk := some 27) #[true, true, true, false, true, false, false, false, false, false] #[true, true, false, true, true, false, false, false, false, false] #[true, true, false, false, true, true, false, false, false, false] rfl rfl rfl rfl rfl rfl (by kernel_rfl) (by decide) (by decide) (by decide) (fun K hK => ?_) (fun K hK => ?_) (fun K hK => ?_)
    · skip
      refine value_ (w1 := ?_) (v := ?_) (by rfl) rfl ?_ ?_
      rotate_left 2
      · go_simp
        constructor
        · rfl
        · rfl
      have hq := Q_first (w := w) (s := w3.heap.size) (by first | rfl | simp) (Kd.R_step HRA3.out (fun k _ hk => hHeld.2.2.2.block k hk)) (Kd.R_step HRB3.out (fun k _ hk => hHeld.2.2.2.block k hk)) (Nat.le_trans (Nat.le_of_succ_le HZ3.out) hHeld.2.2.2.size)
      refine hK.out _ _ ⟨(cell_old ((Below.refl _ _).alloc (Nat.le_refl _) (.cells #[.slice (some ⟨a, 0, none⟩) n n, .slice (some ⟨b, 0, none⟩) n n, .bool true, .slice none 0 0] 205)) hHeld.1), (cell_old ((Below.refl _ _).alloc (Nat.le_refl _) (.cells #[.slice (some ⟨a, 0, none⟩) n n, .slice (some ⟨b, 0, none⟩) n n, .bool true, .slice none 0 0] 205)) hHeld.2.1), (cell_old ((Below.refl _ _).alloc (Nat.le_refl _) (.cells #[.slice (some ⟨a, 0, none⟩) n n, .slice (some ⟨b, 0, none⟩) n n, .bool true, .slice none 0 0] 205)) hHeld.2.2.1), (hHeld.2.2.2.alloc hHeld.2.2.2.size _)⟩ (fun hHeld => ?_)
      clear hK K
      refine norm_ (a' := ?_) ?_ ?_
      rotate_left
      · show Act.put _ (some 24) _ = _
        simp only [Act.put, List.setIfInBounds_toArray, List.set_cons_zero, List.set_cons_succ, i64_w, i32_w]
        rfl
      refine two_ (i := 3) (j := 5) (Ni := some 25) (Nj := some 27) #[true, true, true, true, true, false, false, false, false, false] #[true, true, true, false, true, true, false, false, false, false] rfl rfl rfl rfl (by kernel_rfl) (by decide) (by decide) (fun K hK => ?_) (fun K hK => ?_)
      · skip
        refine value_ (w1 := ?_) (v := ?_) (by rfl) rfl ?_ ?_
        rotate_left 2
        · go_simp
          constructor
          · rfl
          · rfl
        have hm := made_of (s := w3.heap.size + 1) hHeld.2.2.2 (by first | rfl | simp)
        have hmb : w3.heap.size ≤ w3.heap.size + 1 := (by first | exact hHeld.2.2.2.size | (have h9 := hHeld.2.2.2.size; simp at h9 ⊢; omega) | (simp; omega) | simp | omega)
        have hq := Kd.Q_alloc hq (.map #[] 0)
        refine hK.out _ _ ⟨(cell_old ((Below.refl _ _).alloc (Nat.le_refl _) (.map #[] 0)) hHeld.1), (cell_old ((Below.refl _ _).alloc (Nat.le_refl _) (.map #[] 0)) hHeld.2.1), (cell_old ((Below.refl _ _).alloc (Nat.le_refl _) (.map #[] 0)) hHeld.2.2.1), (hHeld.2.2.2.alloc hHeld.2.2.2.size _)⟩ (fun hHeld => ?_)
        clear hK K
        refine norm_ (a' := ?_) ?_ ?_
        rotate_left
        · show Act.put _ (some 25) _ = _
          simp only [Act.put, List.setIfInBounds_toArray, List.set_cons_zero, List.set_cons_succ, i64_w, i32_w]
          rfl
        refine one_ (i := 5) (N := some 27) #[true, true, true, true, true, true, false, false, false, false] rfl rfl (by kernel_rfl) (by decide) (fun K hK => ?_)
        have hCA : Kd.C (Kd.int .i64) _ (some ⟨a, 0, none⟩) n (first n).cs := (R_len (Kd.R_step HRA3.out (fun k _ hk => hHeld.2.2.2.block k hk))).2.2
        have hCB : Kd.C Kd.bool _ (some ⟨b, 0, none⟩) n (first n).fs := (R_len (Kd.R_step HRB3.out (fun k _ hk => hHeld.2.2.2.block k hk))).2.2
        refine goes_ Try.func153 (by kernel_rfl) rfl #[.agg #[.slice (some ⟨a, 0, none⟩) n n, .slice (some ⟨b, 0, none⟩) n n, .bool true]] (by rfl) rfl rfl (by simp only [List.map_toArray, List.map_cons, List.map_nil]; rfl) ?_
        with_reducible refine (key_first (some ⟨a, 0, none⟩) (some ⟨b, 0, none⟩) n n n _ h0 hn hCA hCB).mono ?_
        rintro e wk ⟨rfl, hbk⟩
        refine ⟨_, rfl, ?_⟩
        have hq := Kd.Q_below hq hbk
        have hm := hm.below hbk
        refine hK.out _ _ ⟨(cell_old hbk hHeld.1), (cell_old hbk hHeld.2.1), (cell_old hbk hHeld.2.2.1), (hHeld.2.2.2.trans (hbk.mono hHeld.2.2.2.size))⟩ (fun hHeld => ?_)
        clear hK K
        refine norm_ (a' := ?_) ?_ ?_
        rotate_left
        · show Act.put _ (some 27) _ = _
          simp only [Act.put, List.setIfInBounds_toArray, List.set_cons_zero, List.set_cons_succ, i64_w, i32_w]
          rfl
        refine pure_ (i := 8) (N := some 7) (v := ?_) (a' := ?_) #[true, true, true, true, true, true, false, false, true, false] rfl rfl (by kernel_rfl) (fun _ _ _ h => h) (Or.inl ⟨by rfl, ?_⟩) ?_ ?_
        rotate_left
        · intro w'
          go_simp
          with_reducible rfl
        rotate_left
        · simp only [Act.put, List.setIfInBounds_toArray, List.set_cons_zero, List.set_cons_succ, i64_w, i32_w]
          rfl
        refine one_ (i := 6) (N := none) #[true, true, true, true, true, true, true, false, true, false] rfl rfl (by kernel_rfl) (by decide) (fun K hK => ?_)
        have hmB := isMapB hm
        obtain ⟨wm, hrun, hm, hgm⟩ := hm.update law9 Try.underlying207 (by unfold maxLen; omega) (keyOf_key hn (Sys.Ok.first n)) (.bool true)
        refine skip_ (w1 := wm) (by rfl) rfl ?_ ?_
        · first | (go_simp; done) | (go_simp; rfl) | (go_simp; rw [hrun]; rfl)
        have hbm := hHeld.2.2.2.grown hgm hHeld.2.2.2.size (fun k hk => (by injection hk with hk; omega))
        have hq := Q_map hq hmB hgm
        refine hK.out _ _ ⟨(hcb _ hbm).1, (hcb _ hbm).2.1, (hcb _ hbm).2.2, hbm⟩ (fun hHeld => ?_)
        clear hK K
        refine pure_ (i := 7) (N := some 28) (v := ?_) (a' := ?_) #[true, true, true, true, true, true, true, true, true, false] rfl rfl (by kernel_rfl) (fun _ _ _ h => h) (Or.inl ⟨by rfl, ?_⟩) ?_ ?_
        rotate_left
        · intro w'
          go_simp
          with_reducible rfl
        rotate_left
        · simp only [Act.put, List.setIfInBounds_toArray, List.set_cons_zero, List.set_cons_succ, i64_w, i32_w]
          rfl
        exact norm_ (by simp only [putAll, Act.put, List.setIfInBounds_toArray, List.set_cons_zero, List.set_cons_succ]) (hCont (w3.heap.size, w3.heap.size + 1) _ ⟨hq, ⟨_, hm, (SeenF.none n).snoc (first n) (Sys.Ok.first n)⟩, hHeld.2.2.2, hmb⟩)
      · skip
        have hCA : Kd.C (Kd.int .i64) _ (some ⟨a, 0, none⟩) n (first n).cs := (R_len (Kd.R_step HRA3.out (fun k _ hk => hHeld.2.2.2.block k hk))).2.2
        have hCB : Kd.C Kd.bool _ (some ⟨b, 0, none⟩) n (first n).fs := (R_len (Kd.R_step HRB3.out (fun k _ hk => hHeld.2.2.2.block k hk))).2.2
        refine goes_ Try.func153 (by kernel_rfl) rfl #[.agg #[.slice (some ⟨a, 0, none⟩) n n, .slice (some ⟨b, 0, none⟩) n n, .bool true]] (by rfl) rfl rfl (by simp only [List.map_toArray, List.map_cons, List.map_nil]; rfl) ?_
        with_reducible refine (key_first (some ⟨a, 0, none⟩) (some ⟨b, 0, none⟩) n n n _ h0 hn hCA hCB).mono ?_
        rintro e wk ⟨rfl, hbk⟩
        refine ⟨_, rfl, ?_⟩
        have hq := Kd.Q_below hq hbk
        refine hK.out _ _ ⟨(cell_old hbk hHeld.1), (cell_old hbk hHeld.2.1), (cell_old hbk hHeld.2.2.1), (hHeld.2.2.2.trans (hbk.mono hHeld.2.2.2.size))⟩ (fun hHeld => ?_)
        clear hK K
        refine norm_ (a' := ?_) ?_ ?_
        rotate_left
        · show Act.put _ (some 27) _ = _
          simp only [Act.put, List.setIfInBounds_toArray, List.set_cons_zero, List.set_cons_succ, i64_w, i32_w]
          rfl
        refine pure_ (i := 8) (N := some 7) (v := ?_) (a' := ?_) #[true, true, true, false, true, true, false, false, true, false] rfl rfl (by kernel_rfl) (fun _ _ _ h => h) (Or.inl ⟨by rfl, ?_⟩) ?_ ?_
        rotate_left
        · intro w'
          go_simp
          with_reducible rfl
        rotate_left
        · simp only [Act.put, List.setIfInBounds_toArray, List.set_cons_zero, List.set_cons_succ, i64_w, i32_w]
          rfl
        refine one_ (i := 3) (N := some 25) #[true, true, true, true, true, true, false, false, true, false] rfl rfl (by kernel_rfl) (by decide) (fun K hK => ?_)
        refine value_ (w1 := ?_) (v := ?_) (by rfl) rfl ?_ ?_
        rotate_left 2
        · go_simp
          constructor
          · rfl
          · rfl
        have hm := made_of (s := wk.heap.size) hHeld.2.2.2 (by first | rfl | simp)
        have hmb : w3.heap.size ≤ wk.heap.size := (by first | exact hHeld.2.2.2.size | (have h9 := hHeld.2.2.2.size; simp at h9 ⊢; omega) | (simp; omega) | simp | omega)
        have hq := Kd.Q_alloc hq (.map #[] 0)
        refine hK.out _ _ ⟨(cell_old ((Below.refl _ _).alloc (Nat.le_refl _) (.map #[] 0)) hHeld.1), (cell_old ((Below.refl _ _).alloc (Nat.le_refl _) (.map #[] 0)) hHeld.2.1), (cell_old ((Below.refl _ _).alloc (Nat.le_refl _) (.map #[] 0)) hHeld.2.2.1), (hHeld.2.2.2.alloc hHeld.2.2.2.size _)⟩ (fun hHeld => ?_)
        clear hK K
        refine norm_ (a' := ?_) ?_ ?_
        rotate_left
        · show Act.put _ (some 25) _ = _
          simp only [Act.put, List.setIfInBounds_toArray, List.set_cons_zero, List.set_cons_succ, i64_w, i32_w]
          rfl
        refine one_ (i := 6) (N := none) #[true, true, true, true, true, true, true, false, true, false] rfl rfl (by kernel_rfl) (by decide) (fun K hK => ?_)
        have hmB := isMapB hm
        obtain ⟨wm, hrun, hm, hgm⟩ := hm.update law9 Try.underlying207 (by unfold maxLen; omega) (keyOf_key hn (Sys.Ok.first n)) (.bool true)
        refine skip_ (w1 := wm) (by rfl) rfl ?_ ?_
        · first | (go_simp; done) | (go_simp; rfl) | (go_simp; rw [hrun]; rfl)
        have hbm := hHeld.2.2.2.grown hgm hHeld.2.2.2.size (fun k hk => (by injection hk with hk; omega))
        have hq := Q_map hq hmB hgm
        refine hK.out _ _ ⟨(hcb _ hbm).1, (hcb _ hbm).2.1, (hcb _ hbm).2.2, hbm⟩ (fun hHeld => ?_)
        clear hK K
        refine pure_ (i := 7) (N := some 28) (v := ?_) (a' := ?_) #[true, true, true, true, true, true, true, true, true, false] rfl rfl (by kernel_rfl) (fun _ _ _ h => h) (Or.inl ⟨by rfl, ?_⟩) ?_ ?_
        rotate_left
        · intro w'
          go_simp
          with_reducible rfl
        rotate_left
        · simp only [Act.put, List.setIfInBounds_toArray, List.set_cons_zero, List.set_cons_succ, i64_w, i32_w]
          rfl
        exact norm_ (by simp only [putAll, Act.put, List.setIfInBounds_toArray, List.set_cons_zero, List.set_cons_succ]) (hCont (w3.heap.size, wk.heap.size) _ ⟨hq, ⟨_, hm, (SeenF.none n).snoc (first n) (Sys.Ok.first n)⟩, hHeld.2.2.2, hmb⟩)
    · skip
      refine value_ (w1 := ?_) (v := ?_) (by rfl) rfl ?_ ?_
      rotate_left 2
      · go_simp
        constructor
        · rfl
        · rfl
      have hm := made_of (s := w3.heap.size) hHeld.2.2.2 (by first | rfl | simp)
      have hmb : w3.heap.size ≤ w3.heap.size := (by first | exact hHeld.2.2.2.size | (have h9 := hHeld.2.2.2.size; simp at h9 ⊢; omega) | (simp; omega) | simp | omega)
      refine hK.out _ _ ⟨(cell_old ((Below.refl _ _).alloc (Nat.le_refl _) (.map #[] 0)) hHeld.1), (cell_old ((Below.refl _ _).alloc (Nat.le_refl _) (.map #[] 0)) hHeld.2.1), (cell_old ((Below.refl _ _).alloc (Nat.le_refl _) (.map #[] 0)) hHeld.2.2.1), (hHeld.2.2.2.alloc hHeld.2.2.2.size _)⟩ (fun hHeld => ?_)
      clear hK K
      refine norm_ (a' := ?_) ?_ ?_
      rotate_left
      · show Act.put _ (some 25) _ = _
        simp only [Act.put, List.setIfInBounds_toArray, List.set_cons_zero, List.set_cons_succ, i64_w, i32_w]
        rfl
      refine two_ (i := 2) (j := 5) (Ni := some 24) (Nj := some 27) #[true, true, true, true, true, false, false, false, false, false] #[true, true, false, true, true, true, false, false, false, false] rfl rfl rfl rfl (by kernel_rfl) (by decide) (by decide) (fun K hK => ?_) (fun K hK => ?_)
      · skip
        refine value_ (w1 := ?_) (v := ?_) (by rfl) rfl ?_ ?_
        rotate_left 2
        · go_simp
          constructor
          · rfl
          · rfl
        have hq := Q_first (w := w) (s := w3.heap.size + 1) (by first | rfl | simp) (Kd.R_step HRA3.out (fun k _ hk => hHeld.2.2.2.block k hk)) (Kd.R_step HRB3.out (fun k _ hk => hHeld.2.2.2.block k hk)) (Nat.le_trans (Nat.le_of_succ_le HZ3.out) hHeld.2.2.2.size)
        have hm := hm.below ((Below.refl _ _).alloc (Nat.le_refl _) (.cells #[.slice (some ⟨a, 0, none⟩) n n, .slice (some ⟨b, 0, none⟩) n n, .bool true, .slice none 0 0] 205))
        refine hK.out _ _ ⟨(cell_old ((Below.refl _ _).alloc (Nat.le_refl _) (.cells #[.slice (some ⟨a, 0, none⟩) n n, .slice (some ⟨b, 0, none⟩) n n, .bool true, .slice none 0 0] 205)) hHeld.1), (cell_old ((Below.refl _ _).alloc (Nat.le_refl _) (.cells #[.slice (some ⟨a, 0, none⟩) n n, .slice (some ⟨b, 0, none⟩) n n, .bool true, .slice none 0 0] 205)) hHeld.2.1), (cell_old ((Below.refl _ _).alloc (Nat.le_refl _) (.cells #[.slice (some ⟨a, 0, none⟩) n n, .slice (some ⟨b, 0, none⟩) n n, .bool true, .slice none 0 0] 205)) hHeld.2.2.1), (hHeld.2.2.2.alloc hHeld.2.2.2.size _)⟩ (fun hHeld => ?_)
        clear hK K
        refine norm_ (a' := ?_) ?_ ?_
        rotate_left
        · show Act.put _ (some 24) _ = _
          simp only [Act.put, List.setIfInBounds_toArray, List.set_cons_zero, List.set_cons_succ, i64_w, i32_w]
          rfl
        refine one_ (i := 5) (N := some 27) #[true, true, true, true, true, true, false, false, false, false] rfl rfl (by kernel_rfl) (by decide) (fun K hK => ?_)
        have hCA : Kd.C (Kd.int .i64) _ (some ⟨a, 0, none⟩) n (first n).cs := (R_len (Kd.R_step HRA3.out (fun k _ hk => hHeld.2.2.2.block k hk))).2.2
        have hCB : Kd.C Kd.bool _ (some ⟨b, 0, none⟩) n (first n).fs := (R_len (Kd.R_step HRB3.out (fun k _ hk => hHeld.2.2.2.block k hk))).2.2
        refine goes_ Try.func153 (by kernel_rfl) rfl #[.agg #[.slice (some ⟨a, 0, none⟩) n n, .slice (some ⟨b, 0, none⟩) n n, .bool true]] (by rfl) rfl rfl (by simp only [List.map_toArray, List.map_cons, List.map_nil]; rfl) ?_
        with_reducible refine (key_first (some ⟨a, 0, none⟩) (some ⟨b, 0, none⟩) n n n _ h0 hn hCA hCB).mono ?_
        rintro e wk ⟨rfl, hbk⟩
        refine ⟨_, rfl, ?_⟩
        have hq := Kd.Q_below hq hbk
        have hm := hm.below hbk
        refine hK.out _ _ ⟨(cell_old hbk hHeld.1), (cell_old hbk hHeld.2.1), (cell_old hbk hHeld.2.2.1), (hHeld.2.2.2.trans (hbk.mono hHeld.2.2.2.size))⟩ (fun hHeld => ?_)
        clear hK K
        refine norm_ (a' := ?_) ?_ ?_
        rotate_left
        · show Act.put _ (some 27) _ = _
          simp only [Act.put, List.setIfInBounds_toArray, List.set_cons_zero, List.set_cons_succ, i64_w, i32_w]
          rfl
        refine pure_ (i := 8) (N := some 7) (v := ?_) (a' := ?_) #[true, true, true, true, true, true, false, false, true, false] rfl rfl (by kernel_rfl) (fun _ _ _ h => h) (Or.inl ⟨by rfl, ?_⟩) ?_ ?_
        rotate_left
        · intro w'
          go_simp
          with_reducible rfl
        rotate_left
        · simp only [Act.put, List.setIfInBounds_toArray, List.set_cons_zero, List.set_cons_succ, i64_w, i32_w]
          rfl
        refine one_ (i := 6) (N := none) #[true, true, true, true, true, true, true, false, true, false] rfl rfl (by kernel_rfl) (by decide) (fun K hK => ?_)
        have hmB := isMapB hm
        obtain ⟨wm, hrun, hm, hgm⟩ := hm.update law9 Try.underlying207 (by unfold maxLen; omega) (keyOf_key hn (Sys.Ok.first n)) (.bool true)
        refine skip_ (w1 := wm) (by rfl) rfl ?_ ?_
        · first | (go_simp; done) | (go_simp; rfl) | (go_simp; rw [hrun]; rfl)
        have hbm := hHeld.2.2.2.grown hgm hHeld.2.2.2.size (fun k hk => (by injection hk with hk; omega))
        have hq := Q_map hq hmB hgm
        refine hK.out _ _ ⟨(hcb _ hbm).1, (hcb _ hbm).2.1, (hcb _ hbm).2.2, hbm⟩ (fun hHeld => ?_)
        clear hK K
        refine pure_ (i := 7) (N := some 28) (v := ?_) (a' := ?_) #[true, true, true, true, true, true, true, true, true, false] rfl rfl (by kernel_rfl) (fun _ _ _ h => h) (Or.inl ⟨by rfl, ?_⟩) ?_ ?_
        rotate_left
        · intro w'
          go_simp
          with_reducible rfl
        rotate_left
        · simp only [Act.put, List.setIfInBounds_toArray, List.set_cons_zero, List.set_cons_succ, i64_w, i32_w]
          rfl
        exact norm_ (by simp only [putAll, Act.put, List.setIfInBounds_toArray, List.set_cons_zero, List.set_cons_succ]) (hCont (w3.heap.size + 1, w3.heap.size) _ ⟨hq, ⟨_, hm, (SeenF.none n).snoc (first n) (Sys.Ok.first n)⟩, hHeld.2.2.2, hmb⟩)
      · skip
        have hCA : Kd.C (Kd.int .i64) _ (some ⟨a, 0, none⟩) n (first n).cs := (R_len (Kd.R_step HRA3.out (fun k _ hk => hHeld.2.2.2.block k hk))).2.2
        have hCB : Kd.C Kd.bool _ (some ⟨b, 0, none⟩) n (first n).fs := (R_len (Kd.R_step HRB3.out (fun k _ hk => hHeld.2.2.2.block k hk))).2.2
        refine goes_ Try.func153 (by kernel_rfl) rfl #[.agg #[.slice (some ⟨a, 0, none⟩) n n, .slice (some ⟨b, 0, none⟩) n n, .bool true]] (by rfl) rfl rfl (by simp only [List.map_toArray, List.map_cons, List.map_nil]; rfl) ?_
        with_reducible refine (key_first (some ⟨a, 0, none⟩) (some ⟨b, 0, none⟩) n n n _ h0 hn hCA hCB).mono ?_
        rintro e wk ⟨rfl, hbk⟩
        refine ⟨_, rfl, ?_⟩
        have hm := hm.below hbk
        refine hK.out _ _ ⟨(cell_old hbk hHeld.1), (cell_old hbk hHeld.2.1), (cell_old hbk hHeld.2.2.1), (hHeld.2.2.2.trans (hbk.mono hHeld.2.2.2.size))⟩ (fun hHeld => ?_)
        clear hK K
        refine norm_ (a' := ?_) ?_ ?_
        rotate_left
        · show Act.put _ (some 27) _ = _
          simp only [Act.put, List.setIfInBounds_toArray, List.set_cons_zero, List.set_cons_succ, i64_w, i32_w]
          rfl
        refine two_ (i := 2) (j := 6) (Ni := some 24) (Nj := none) #[true, true, true, true, true, true, false, false, false, false] #[true, true, false, true, true, true, true, false, false, false] rfl rfl rfl rfl (by kernel_rfl) (by decide) (by decide) (fun K hK => ?_) (fun K hK => ?_)
        · skip
          refine value_ (w1 := ?_) (v := ?_) (by rfl) rfl ?_ ?_
          rotate_left 2
          · go_simp
            constructor
            · rfl
            · rfl
          have hq := Q_first (w := w) (s := wk.heap.size) (by first | rfl | simp) (Kd.R_step HRA3.out (fun k _ hk => hHeld.2.2.2.block k hk)) (Kd.R_step HRB3.out (fun k _ hk => hHeld.2.2.2.block k hk)) (Nat.le_trans (Nat.le_of_succ_le HZ3.out) hHeld.2.2.2.size)
          have hm := hm.below ((Below.refl _ _).alloc (Nat.le_refl _) (.cells #[.slice (some ⟨a, 0, none⟩) n n, .slice (some ⟨b, 0, none⟩) n n, .bool true, .slice none 0 0] 205))
          refine hK.out _ _ ⟨(cell_old ((Below.refl _ _).alloc (Nat.le_refl _) (.cells #[.slice (some ⟨a, 0, none⟩) n n, .slice (some ⟨b, 0, none⟩) n n, .bool true, .slice none 0 0] 205)) hHeld.1), (cell_old ((Below.refl _ _).alloc (Nat.le_refl _) (.cells #[.slice (some ⟨a, 0, none⟩) n n, .slice (some ⟨b, 0, none⟩) n n, .bool true, .slice none 0 0] 205)) hHeld.2.1), (cell_old ((Below.refl _ _).alloc (Nat.le_refl _) (.cells #[.slice (some ⟨a, 0, none⟩) n n, .slice (some ⟨b, 0, none⟩) n n, .bool true, .slice none 0 0] 205)) hHeld.2.2.1), (hHeld.2.2.2.alloc hHeld.2.2.2.size _)⟩ (fun hHeld => ?_)
          clear hK K
          refine norm_ (a' := ?_) ?_ ?_
          rotate_left
          · show Act.put _ (some 24) _ = _
            simp only [Act.put, List.setIfInBounds_toArray, List.set_cons_zero, List.set_cons_succ, i64_w, i32_w]
            rfl
          refine pure_ (i := 8) (N := some 7) (v := ?_) (a' := ?_) #[true, true, true, true, true, true, false, false, true, false] rfl rfl (by kernel_rfl) (fun _ _ _ h => h) (Or.inl ⟨by rfl, ?_⟩) ?_ ?_
          rotate_left
          · intro w'
            go_simp
            with_reducible rfl
          rotate_left
          · simp only [Act.put, List.setIfInBounds_toArray, List.set_cons_zero, List.set_cons_succ, i64_w, i32_w]
            rfl
          refine one_ (i := 6) (N := none) #[true, true, true, true, true, true, true, false, true, false] rfl rfl (by kernel_rfl) (by decide) (fun K hK => ?_)
          have hmB := isMapB hm
          obtain ⟨wm, hrun, hm, hgm⟩ := hm.update law9 Try.underlying207 (by unfold maxLen; omega) (keyOf_key hn (Sys.Ok.first n)) (.bool true)
          refine skip_ (w1 := wm) (by rfl) rfl ?_ ?_
          · first | (go_simp; done) | (go_simp; rfl) | (go_simp; rw [hrun]; rfl)
          have hbm := hHeld.2.2.2.grown hgm hHeld.2.2.2.size (fun k hk => (by injection hk with hk; omega))
          have hq := Q_map hq hmB hgm
          refine hK.out _ _ ⟨(hcb _ hbm).1, (hcb _ hbm).2.1, (hcb _ hbm).2.2, hbm⟩ (fun hHeld => ?_)
          clear hK K
          refine pure_ (i := 7) (N := some 28) (v := ?_) (a' := ?_) #[true, true, true, true, true, true, true, true, true, false] rfl rfl (by kernel_rfl) (fun _ _ _ h => h) (Or.inl ⟨by rfl, ?_⟩) ?_ ?_
          rotate_left
          · intro w'
            go_simp
            with_reducible rfl
          rotate_left
          · simp only [Act.put, List.setIfInBounds_toArray, List.set_cons_zero, List.set_cons_succ, i64_w, i32_w]
            rfl
          exact norm_ (by simp only [putAll, Act.put, List.setIfInBounds_toArray, List.set_cons_zero, List.set_cons_succ]) (hCont (wk.heap.size, w3.heap.size) _ ⟨hq, ⟨_, hm, (SeenF.none n).snoc (first n) (Sys.Ok.first n)⟩, hHeld.2.2.2, hmb⟩)
        · skip
          have hmB := isMapB hm
          obtain ⟨wm, hrun, hm, hgm⟩ := hm.update law9 Try.underlying207 (by unfold maxLen; omega) (keyOf_key hn (Sys.Ok.first n)) (.bool true)
          refine skip_ (w1 := wm) (by rfl) rfl ?_ ?_
          · first | (go_simp; done) | (go_simp; rfl) | (go_simp; rw [hrun]; rfl)
          have hbm := hHeld.2.2.2.grown hgm hHeld.2.2.2.size (fun k hk => (by injection hk with hk; omega))
          refine hK.out _ _ ⟨(hcb _ hbm).1, (hcb _ hbm).2.1, (hcb _ hbm).2.2, hbm⟩ (fun hHeld => ?_)
          clear hK K
          refine pure_ (i := 7) (N := some 28) (v := ?_) (a' := ?_) #[true, true, false, true, true, true, true, true, false, false] rfl rfl (by kernel_rfl) (fun _ _ _ h => h) (Or.inl ⟨by rfl, ?_⟩) ?_ ?_
          rotate_left
          · intro w'
            go_simp
            with_reducible rfl
          rotate_left
          · simp only [Act.put, List.setIfInBounds_toArray, List.set_cons_zero, List.set_cons_succ, i64_w, i32_w]
            rfl
          refine one_ (i := 2) (N := some 24) #[true, true, true, true, true, true, true, true, false, false] rfl rfl (by kernel_rfl) (by decide) (fun K hK => ?_)
          refine value_ (w1 := ?_) (v := ?_) (by rfl) rfl ?_ ?_
          rotate_left 2
          · go_simp
            constructor
            · rfl
            · rfl
          have hq := Q_first (w := w) (s := wm.heap.size) (by first | rfl | simp) (Kd.R_step HRA3.out (fun k _ hk => hHeld.2.2.2.block k hk)) (Kd.R_step HRB3.out (fun k _ hk => hHeld.2.2.2.block k hk)) (Nat.le_trans (Nat.le_of_succ_le HZ3.out) hHeld.2.2.2.size)
          have hm := hm.below ((Below.refl _ _).alloc (Nat.le_refl _) (.cells #[.slice (some ⟨a, 0, none⟩) n n, .slice (some ⟨b, 0, none⟩) n n, .bool true, .slice none 0 0] 205))
          refine hK.out _ _ ⟨(cell_old ((Below.refl _ _).alloc (Nat.le_refl _) (.cells #[.slice (some ⟨a, 0, none⟩) n n, .slice (some ⟨b, 0, none⟩) n n, .bool true, .slice none 0 0] 205)) hHeld.1), (cell_old ((Below.refl _ _).alloc (Nat.le_refl _) (.cells #[.slice (some ⟨a, 0, none⟩) n n, .slice (some ⟨b, 0, none⟩) n n, .bool true, .slice none 0 0] 205)) hHeld.2.1), (cell_old ((Below.refl _ _).alloc (Nat.le_refl _) (.cells #[.slice (some ⟨a, 0, none⟩) n n, .slice (some ⟨b, 0, none⟩) n n, .bool true, .slice none 0 0] 205)) hHeld.2.2.1), (hHeld.2.2.2.alloc hHeld.2.2.2.size _)⟩ (fun hHeld => ?_)
          clear hK K
          refine norm_ (a' := ?_) ?_ ?_
          rotate_left
          · show Act.put _ (some 24) _ = _
            simp only [Act.put, List.setIfInBounds_toArray, List.set_cons_zero, List.set_cons_succ, i64_w, i32_w]
            rfl
          refine pure_ (i := 8) (N := some 7) (v := ?_) (a' := ?_) #[true, true, true, true, true, true, true, true, true, false] rfl rfl (by kernel_rfl) (fun _ _ _ h => h) (Or.inl ⟨by rfl, ?_⟩) ?_ ?_
          rotate_left
          · intro w'
            go_simp
            with_reducible rfl
          rotate_left
          · simp only [Act.put, List.setIfInBounds_toArray, List.set_cons_zero, List.set_cons_succ, i64_w, i32_w]
            rfl
          exact norm_ (by simp only [putAll, Act.put, List.setIfInBounds_toArray, List.set_cons_zero, List.set_cons_succ]) (hCont (wm.heap.size, w3.heap.size) _ ⟨hq, ⟨_, hm, (SeenF.none n).snoc (first n) (Sys.Ok.first n)⟩, hHeld.2.2.2, hmb⟩)
    · skip
      have hCA : Kd.C (Kd.int .i64) _ (some ⟨a, 0, none⟩) n (first n).cs := (R_len (Kd.R_step HRA3.out (fun k _ hk => hHeld.2.2.2.block k hk))).2.2
      have hCB : Kd.C Kd.bool _ (some ⟨b, 0, none⟩) n (first n).fs := (R_len (Kd.R_step HRB3.out (fun k _ hk => hHeld.2.2.2.block k hk))).2.2
      refine goes_ Try.func153 (by kernel_rfl) rfl #[.agg #[.slice (some ⟨a, 0, none⟩) n n, .slice (some ⟨b, 0, none⟩) n n, .bool true]] (by rfl) rfl rfl (by simp only [List.map_toArray, List.map_cons, List.map_nil]; rfl) ?_
      with_reducible refine (key_first (some ⟨a, 0, none⟩) (some ⟨b, 0, none⟩) n n n _ h0 hn hCA hCB).mono ?_
      rintro e wk ⟨rfl, hbk⟩
      refine ⟨_, rfl, ?_⟩
      refine hK.out _ _ ⟨(cell_old hbk hHeld.1), (cell_old hbk hHeld.2.1), (cell_old hbk hHeld.2.2.1), (hHeld.2.2.2.trans (hbk.mono hHeld.2.2.2.size))⟩ (fun hHeld => ?_)
      clear hK K
      refine norm_ (a' := ?_) ?_ ?_
      rotate_left
      · show Act.put _ (some 27) _ = _
        simp only [Act.put, List.setIfInBounds_toArray, List.set_cons_zero, List.set_cons_succ, i64_w, i32_w]
        rfl
      refine two_ (i := 2) (j := 3) (Ni := some 24) (Nj := some 25) #[true, true, true, false, true, true, false, false, false, false] #[true, true, false, true, true, true, false, false, false, false] rfl rfl rfl rfl (by kernel_rfl) (by decide) (by decide) (fun K hK => ?_) (fun K hK => ?_)
      · skip
        refine value_ (w1 := ?_) (v := ?_) (by rfl) rfl ?_ ?_
        rotate_left 2
        · go_simp
          constructor
          · rfl
          · rfl
        have hq := Q_first (w := w) (s := wk.heap.size) (by first | rfl | simp) (Kd.R_step HRA3.out (fun k _ hk => hHeld.2.2.2.block k hk)) (Kd.R_step HRB3.out (fun k _ hk => hHeld.2.2.2.block k hk)) (Nat.le_trans (Nat.le_of_succ_le HZ3.out) hHeld.2.2.2.size)
        refine hK.out _ _ ⟨(cell_old ((Below.refl _ _).alloc (Nat.le_refl _) (.cells #[.slice (some ⟨a, 0, none⟩) n n, .slice (some ⟨b, 0, none⟩) n n, .bool true, .slice none 0 0] 205)) hHeld.1), (cell_old ((Below.refl _ _).alloc (Nat.le_refl _) (.cells #[.slice (some ⟨a, 0, none⟩) n n, .slice (some ⟨b, 0, none⟩) n n, .bool true, .slice none 0 0] 205)) hHeld.2.1), (cell_old ((Below.refl _ _).alloc (Nat.le_refl _) (.cells #[.slice (some ⟨a, 0, none⟩) n n, .slice (some ⟨b, 0, none⟩) n n, .bool true, .slice none 0 0] 205)) hHeld.2.2.1), (hHeld.2.2.2.alloc hHeld.2.2.2.size _)⟩ (fun hHeld => ?_)
        clear hK K
        refine norm_ (a' := ?_) ?_ ?_
        rotate_left
        · show Act.put _ (some 24) _ = _
          simp only [Act.put, List.setIfInBounds_toArray, List.set_cons_zero, List.set_cons_succ, i64_w, i32_w]
          rfl
        refine pure_ (i := 8) (N := some 7) (v := ?_) (a' := ?_) #[true, true, true, false, true, true, false, false, true, false] rfl rfl (by kernel_rfl) (fun _ _ _ h => h) (Or.inl ⟨by rfl, ?_⟩) ?_ ?_
        rotate_left
        · intro w'
          go_simp
          with_reducible rfl
        rotate_left
        · simp only [Act.put, List.setIfInBounds_toArray, List.set_cons_zero, List.set_cons_succ, i64_w, i32_w]
          rfl
        refine one_ (i := 3) (N := some 25) #[true, true, true, true, true, true, false, false, true, false] rfl rfl (by kernel_rfl) (by decide) (fun K hK => ?_)
        refine value_ (w1 := ?_) (v := ?_) (by rfl) rfl ?_ ?_
        rotate_left 2
        · go_simp
          constructor
          · rfl
          · rfl
        have hm := made_of (s := wk.heap.size + 1) hHeld.2.2.2 (by first | rfl | simp)
        have hmb : w3.heap.size ≤ wk.heap.size + 1 := (by first | exact hHeld.2.2.2.size | (have h9 := hHeld.2.2.2.size; simp at h9 ⊢; omega) | (simp; omega) | simp | omega)
        have hq := Kd.Q_alloc hq (.map #[] 0)
        refine hK.out _ _ ⟨(cell_old ((Below.refl _ _).alloc (Nat.le_refl _) (.map #[] 0)) hHeld.1), (cell_old ((Below.refl _ _).alloc (Nat.le_refl _) (.map #[] 0)) hHeld.2.1), (cell_old ((Below.refl _ _).alloc (Nat.le_refl _) (.map #[] 0)) hHeld.2.2.1), (hHeld.2.2.2.alloc hHeld.2.2.2.size _)⟩ (fun hHeld => ?_)
        clear hK K
        refine norm_ (a' := ?_) ?_ ?_
        rotate_left
        · show Act.put _ (some 25) _ = _
          simp only [Act.put, List.setIfInBounds_toArray, List.set_cons_zero, List.set_cons_succ, i64_w, i32_w]
          rfl
        refine one_ (i := 6) (N := none) #[true, true, true, true, true, true, true, false, true, false] rfl rfl (by kernel_rfl) (by decide) (fun K hK => ?_)
        have hmB := isMapB hm
        obtain ⟨wm, hrun, hm, hgm⟩ := hm.update law9 Try.underlying207 (by unfold maxLen; omega) (keyOf_key hn (Sys.Ok.first n)) (.bool true)
        refine skip_ (w1 := wm) (by rfl) rfl ?_ ?_
        · first | (go_simp; done) | (go_simp; rfl) | (go_simp; rw [hrun]; rfl)
        have hbm := hHeld.2.2.2.grown hgm hHeld.2.2.2.size (fun k hk => (by injection hk with hk; omega))
        have hq := Q_map hq hmB hgm
        refine hK.out _ _ ⟨(hcb _ hbm).1, (hcb _ hbm).2.1, (hcb _ hbm).2.2, hbm⟩ (fun hHeld => ?_)
        clear hK K
        refine pure_ (i := 7) (N := some 28) (v := ?_) (a' := ?_) #[true, true, true, true, true, true, true, true, true, false] rfl rfl (by kernel_rfl) (fun _ _ _ h => h) (Or.inl ⟨by rfl, ?_⟩) ?_ ?_
        rotate_left
        · intro w'
          go_simp
          with_reducible rfl
        rotate_left
        · simp only [Act.put, List.setIfInBounds_toArray, List.set_cons_zero, List.set_cons_succ, i64_w, i32_w]
          rfl
        exact norm_ (by simp only [putAll, Act.put, List.setIfInBounds_toArray, List.set_cons_zero, List.set_cons_succ]) (hCont (wk.heap.size, wk.heap.size + 1) _ ⟨hq, ⟨_, hm, (SeenF.none n).snoc (first n) (Sys.Ok.first n)⟩, hHeld.2.2.2, hmb⟩)
      · skip
        refine value_ (w1 := ?_) (v := ?_) (by rfl) rfl ?_ ?_
        rotate_left 2
        · go_simp
          constructor
          · rfl
          · rfl
        have hm := made_of (s := wk.heap.size) hHeld.2.2.2 (by first | rfl | simp)
        have hmb : w3.heap.size ≤ wk.heap.size := (by first | exact hHeld.2.2.2.size | (have h9 := hHeld.2.2.2.size; simp at h9 ⊢; omega) | (simp; omega) | simp | omega)
        refine hK.out _ _ ⟨(cell_old ((Below.refl _ _).alloc (Nat.le_refl _) (.map #[] 0)) hHeld.1), (cell_old ((Below.refl _ _).alloc (Nat.le_refl _) (.map #[] 0)) hHeld.2.1), (cell_old ((Below.refl _ _).alloc (Nat.le_refl _) (.map #[] 0)) hHeld.2.2.1), (hHeld.2.2.2.alloc hHeld.2.2.2.size _)⟩ (fun hHeld => ?_)
        clear hK K
        refine norm_ (a' := ?_) ?_ ?_
        rotate_left
        · show Act.put _ (some 25) _ = _
          simp only [Act.put, List.setIfInBounds_toArray, List.set_cons_zero, List.set_cons_succ, i64_w, i32_w]
          rfl
        refine two_ (i := 2) (j := 6) (Ni := some 24) (Nj := none) #[true, true, true, true, true, true, false, false, false, false] #[true, true, false, true, true, true, true, false, false, false] rfl rfl rfl rfl (by kernel_rfl) (by decide) (by decide) (fun K hK => ?_) (fun K hK => ?_)
        · skip
          refine value_ (w1 := ?_) (v := ?_) (by rfl) rfl ?_ ?_
          rotate_left 2
          · go_simp
            constructor
            · rfl
            · rfl
          have hq := Q_first (w := w) (s := wk.heap.size + 1) (by first | rfl | simp) (Kd.R_step HRA3.out (fun k _ hk => hHeld.2.2.2.block k hk)) (Kd.R_step HRB3.out (fun k _ hk => hHeld.2.2.2.block k hk)) (Nat.le_trans (Nat.le_of_succ_le HZ3.out) hHeld.2.2.2.size)
          have hm := hm.below ((Below.refl _ _).alloc (Nat.le_refl _) (.cells #[.slice (some ⟨a, 0, none⟩) n n, .slice (some ⟨b, 0, none⟩) n n, .bool true, .slice none 0 0] 205))
          refine hK.out _ _ ⟨(cell_old ((Below.refl _ _).alloc (Nat.le_refl _) (.cells #[.slice (some ⟨a, 0, none⟩) n n, .slice (some ⟨b, 0, none⟩) n n, .bool true, .slice none 0 0] 205)) hHeld.1), (cell_old ((Below.refl _ _).alloc (Nat.le_refl _) (.cells #[.slice (some ⟨a, 0, none⟩) n n, .slice (some ⟨b, 0, none⟩) n n, .bool true, .slice none 0 0] 205)) hHeld.2.1), (cell_old ((Below.refl _ _).alloc (Nat.le_refl _) (.cells #[.slice (some ⟨a, 0, none⟩) n n, .slice (some ⟨b, 0, none⟩) n n, .bool true, .slice none 0 0] 205)) hHeld.2.2.1), (hHeld.2.2.2.alloc hHeld.2.2.2.size _)⟩ (fun hHeld => ?_)
          clear hK K
          refine norm_ (a' := ?_) ?_ ?_
          rotate_left
          · show Act.put _ (some 24) _ = _
            simp only [Act.put, List.setIfInBounds_toArray, List.set_cons_zero, List.set_cons_succ, i64_w, i32_w]
            rfl
          refine pure_ (i := 8) (N := some 7) (v := ?_) (a' := ?_) #[true, true, true, true, true, true, false, false, true, false] rfl rfl (by kernel_rfl) (fun _ _ _ h => h) (Or.inl ⟨by rfl, ?_⟩) ?_ ?_
          rotate_left
          · intro w'
            go_simp
            with_reducible rfl
          rotate_left
          · simp only [Act.put, List.setIfInBounds_toArray, List.set_cons_zero, List.set_cons_succ, i64_w, i32_w]
            rfl
          refine one_ (i := 6) (N := none) #[true, true, true, true, true, true, true, false, true, false] rfl rfl (by kernel_rfl) (by decide) (fun K hK => ?_)
          have hmB := isMapB hm
          obtain ⟨wm, hrun, hm, hgm⟩ := hm.update law9 Try.underlying207 (by unfold maxLen; omega) (keyOf_key hn (Sys.Ok.first n)) (.bool true)
          refine skip_ (w1 := wm) (by rfl) rfl ?_ ?_
          · first | (go_simp; done) | (go_simp; rfl) | (go_simp; rw [hrun]; rfl)
          have hbm := hHeld.2.2.2.grown hgm hHeld.2.2.2.size (fun k hk => (by injection hk with hk; omega))
          have hq := Q_map hq hmB hgm
          refine hK.out _ _ ⟨(hcb _ hbm).1, (hcb _ hbm).2.1, (hcb _ hbm).2.2, hbm⟩ (fun hHeld => ?_)
          clear hK K
          refine pure_ (i := 7) (N := some 28) (v := ?_) (a' := ?_) #[true, true, true, true, true, true, true, true, true, false] rfl rfl (by kernel_rfl) (fun _ _ _ h => h) (Or.inl ⟨by rfl, ?_⟩) ?_ ?_
          rotate_left
          · intro w'
            go_simp
            with_reducible rfl
          rotate_left
          · simp only [Act.put, List.setIfInBounds_toArray, List.set_cons_zero, List.set_cons_succ, i64_w, i32_w]
            rfl
          exact norm_ (by simp only [putAll, Act.put, List.setIfInBounds_toArray, List.set_cons_zero, List.set_cons_succ]) (hCont (wk.heap.size + 1, wk.heap.size) _ ⟨hq, ⟨_, hm, (SeenF.none n).snoc (first n) (Sys.Ok.first n)⟩, hHeld.2.2.2, hmb⟩)
        · skip
          have hmB := isMapB hm
          obtain ⟨wm, hrun, hm, hgm⟩ := hm.update law9 Try.underlying207 (by unfold maxLen; omega) (keyOf_key hn (Sys.Ok.first n)) (.bool true)
          refine skip_ (w1 := wm) (by rfl) rfl ?_ ?_
          · first | (go_simp; done) | (go_simp; rfl) | (go_simp; rw [hrun]; rfl)
          have hbm := hHeld.2.2.2.grown hgm hHeld.2.2.2.size (fun k hk => (by injection hk with hk; omega))
          refine hK.out _ _ ⟨(hcb _ hbm).1, (hcb _ hbm).2.1, (hcb _ hbm).2.2, hbm⟩ (fun hHeld => ?_)
          clear hK K
          refine pure_ (i := 7) (N := some 28) (v := ?_) (a' := ?_) #[true, true, false, true, true, true, true, true, false, false] rfl rfl (by kernel_rfl) (fun _ _ _ h => h) (Or.inl ⟨by rfl, ?_⟩) ?_ ?_
          rotate_left
          · intro w'
            go_simp
            with_reducible rfl
          rotate_left
          · simp only [Act.put, List.setIfInBounds_toArray, List.set_cons_zero, List.set_cons_succ, i64_w, i32_w]
            rfl
          refine one_ (i := 2) (N := some 24) #[true, true, true, true, true, true, true, true, false, false] rfl rfl (by kernel_rfl) (by decide) (fun K hK => ?_)
          refine value_ (w1 := ?_) (v := ?_) (by rfl) rfl ?_ ?_
          rotate_left 2
          · go_simp
            constructor
            · rfl
            · rfl
          have hq := Q_first (w := w) (s := wm.heap.size) (by first | rfl | simp) (Kd.R_step HRA3.out (fun k _ hk => hHeld.2.2.2.block k hk)) (Kd.R_step HRB3.out (fun k _ hk => hHeld.2.2.2.block k hk)) (Nat.le_trans (Nat.le_of_succ_le HZ3.out) hHeld.2.2.2.size)
          have hm := hm.below ((Below.refl _ _).alloc (Nat.le_refl _) (.cells #[.slice (some ⟨a, 0, none⟩) n n, .slice (some ⟨b, 0, none⟩) n n, .bool true, .slice none 0 0] 205))
          refine hK.out _ _ ⟨(cell_old ((Below.refl _ _).alloc (Nat.le_refl _) (.cells #[.slice (some ⟨a, 0, none⟩) n n, .slice (some ⟨b, 0, none⟩) n n, .bool true, .slice none 0 0] 205)) hHeld.1), (cell_old ((Below.refl _ _).alloc (Nat.le_refl _) (.cells #[.slice (some ⟨a, 0, none⟩) n n, .slice (some ⟨b, 0, none⟩) n n, .bool true, .slice none 0 0] 205)) hHeld.2.1), (cell_old ((Below.refl _ _).alloc (Nat.le_refl _) (.cells #[.slice (some ⟨a, 0, none⟩) n n, .slice (some ⟨b, 0, none⟩) n n, .bool true, .slice none 0 0] 205)) hHeld.2.2.1), (hHeld.2.2.2.alloc hHeld.2.2.2.size _)⟩ (fun hHeld => ?_)
          clear hK K
          refine norm_ (a' := ?_) ?_ ?_
          rotate_left
          · show Act.put _ (some 24) _ = _
            simp only [Act.put, List.setIfInBounds_toArray, List.set_cons_zero, List.set_cons_succ, i64_w, i32_w]
            rfl
          refine pure_ (i := 8) (N := some 7) (v := ?_) (a' := ?_) #[true, true, true, true, true, true, true, true, true, false] rfl rfl (by kernel_rfl) (fun _ _ _ h => h) (Or.inl ⟨by rfl, ?_⟩) ?_ ?_
          rotate_left
          · intro w'
            go_simp
            with_reducible rfl
          rotate_left
          · simp only [Act.put, List.setIfInBounds_toArray, List.set_cons_zero, List.set_cons_succ, i64_w, i32_w]
            rfl
          exact norm_ (by simp only [putAll, Act.put, List.setIfInBounds_toArray, List.set_cons_zero, List.set_cons_succ]) (hCont (wm.heap.size, wk.heap.size) _ ⟨hq, ⟨_, hm, (SeenF.none n).snoc (first n) (Sys.Ok.first n)⟩, hHeld.2.2.2, hmb⟩)
  rintro ⟨q0, mb⟩ w4 ⟨hq, hm, hb34, hmb⟩
  have hHeld := trivial
  refine norm_ (a' := ?_) ?_ ?_
  rotate_left
  · simp only [putAll, Act.put, List.setIfInBounds_toArray, List.set_cons_zero, List.set_cons_succ]
    rfl
  refine pure_ (i := 9) (N := some 8) (v := ?_) (a' := ?_) #[true, true, true, true, true, true, true, true, true, true] rfl rfl (by kernel_rfl) (fun _ _ _ h => h) (Or.inl ⟨by rfl, ?_⟩) ?_ ?_
  rotate_left
  · intro w'
    go_simp
    with_reducible rfl
  rotate_left
  · simp only [Act.put, List.setIfInBounds_toArray, List.set_cons_zero, List.set_cons_succ, i64_w, i32_w]
    rfl
  refine done_ (by kernel_rfl) ?_
  have hb4 : Below w.heap.size w w4 := HB3.out.trans (hb34.mono (by have := HZ3.out; omega))
  have hX0 : XS w (w4.alloc (.cells #[] 60)) n mb 0 (bfsS p n 0) (.slice (some ⟨q0, 0, none⟩) 1 1) (.slice (some ⟨w4.heap.size, 0, none⟩) 0 0) (.slice none 0 0) := by
    obtain ⟨f, hm1, hm2⟩ := hm
    have hal : Below w4.heap.size w4 (w4.alloc (.cells #[] 60)) := (Below.refl _ _).alloc (Nat.le_refl _) _
    exact ⟨hb4.alloc hb4.size _, Kd.Q_alloc hq _, R_lit0 kSys 60 w.heap.size w4 hb4.size _ trivial, ⟨f, hm1.below hal, hm2⟩, rfl, by have h9 : w3.heap.size ≤ mb := hmb; have := HZ3.out; omega⟩
  have HX0 := Lib.hid hX0
  have HBL3 : Hid (∀ wr, Below w3.heap.size w3 wr → wr.heap[w.heap.size]? = some (.cells #[.slice (AA 0) (p.tab 0).length (cc 0), .slice (AA 1) (p.tab 1).length (cc 1), .slice (AA 2) (p.tab 2).length (cc 2), .slice (AA 3) (p.tab 3).length (cc 3), .slice (AA 4) (p.tab 4).length (cc 4)] 50 (0, 0))) := Lib.hid (fun wr h => (h.block w.heap.size (by have := HZ3.out; omega)).trans HBLK3.out)
  have HB34 := Lib.hid (hb34.alloc hb34.size (.cells #[] 60))
  have HMB : Hid (w3.heap.size ≤ mb) := Lib.hid hmb
  clear hX0 hb4 hq hm hb34 hmb hHeld hcb c0 c1 c2 hmm
  go_wp2_with fail
  go_loopg [7, 9, 10] 1100 (fun k vq vs vf wr => ∃ i, i + k = 1100 ∧ Hid (i ≤ (bfsS p n i).1.length) ∧ Hid (XS w wr n mb i (bfsS p n i) vq vs vf) ∧ Hid (PBx w wr p AA cc))
  case atStart => exact ⟨0, rfl, Lib.hid (Nat.zero_le _), HX0, Lib.hid (HBL3.out _ HB34.out)⟩
  case round =>
    obtain ⟨i, hk, HI, HS, HPB⟩ := hrel
    have HLE := Lib.hid (nodes_le HP.out h0 hn i)
    obtain ⟨L, hL⟩ : ∃ L, ((bfsS p n i).1.drop i).length = L := ⟨_, rfl⟩
    by_cases hlt : i < (bfsS p n i).1.length
    · have hL0 : 0 < L := by rw [← hL, List.length_drop]; omega
      have hq := HS.out.q
      obtain ⟨qg, qo, qc, hu7, hqb, hql, _⟩ := Kd.Q_form hq (by rw [hL]; exact hL0)
      rw [hL] at hu7
      subst hu7
      obtain ⟨ce, hce, hM, hcell, _⟩ := Kd.Q_elem hq (first n, []) 0 (by omega) (by omega)
      obtain ⟨now, hat⟩ : ∃ now, (bfsS p n i).1[i]? = some now := ⟨_, List.getElem?_eq_getElem hlt⟩
      have hd0 : ((bfsS p n i).1.drop i).getD (0 : Int).toNat (first n, []) = now := by
        simp [List.getD_eq_getElem?_getD, hat]
      rw [hd0] at hM
      have hOk := node_Ok HP.out (List.mem_of_getElem? hat)
      have hMw : kRea.M wr w.heap.size (fun _ => True) now ce := kRea.M_mono (fun _ _ => trivial) hM
      obtain ⟨v1, v2, v3, rfl, h1, h2, h3⟩ := kRea_openM hMw
      obtain ⟨A1, k1, rfl, _, e1⟩ := Kd.R_reads h1
      obtain ⟨A2, k2, rfl, _, e2⟩ := Kd.R_reads h2
      obtain ⟨A3, k3, rfl, _, e3⟩ := Kd.R_reads h3
      rw [hOk.lc, hOk.lf] at hMw hcell
      obtain ⟨nm, hnm⟩ : ∃ m, now.1.m = m := ⟨_, rfl⟩
      obtain ⟨nl, hnl⟩ : ∃ m, now.2.length = m := ⟨_, rfl⟩
      rw [hnm, hnl] at hMw hcell
      have d0 : wr.cell? ⟨qg, qo, none⟩ = some (.slice A1 n k1) := by have := hcell 0 _ rfl; simpa using this
      have d1 : wr.cell? ⟨qg, qo + 1, none⟩ = some (.slice A2 n k2) := by have := hcell 1 _ rfl; simpa using this
      have d2 : wr.cell? ⟨qg, qo + 2, none⟩ = some (.bool nm) := by have := hcell 2 _ rfl; simpa using this
      have d3 : wr.cell? ⟨qg, qo + 3, none⟩ = some (.slice A3 nl k3) := by have := hcell 3 _ rfl; simpa using this
      have hLq : L ≤ qc := by obtain ⟨_, _, e, hl⟩ := Kd.Q_slice hq; injection e with _ _ e; omega
      obtain ⟨i205, hi205, _, hz205, _⟩ := info_parts info205
      have hcut := cut_from (P := Try.prog) 206 205 .i64 Try.underlying206 hi205 4 hz205 (some ⟨qg, qo, none⟩) L qc 1 (by omega) (by omega)
      have hqd := Kd.Q_drop hq (k := 1) (by rw [hL]; exact hL0)
      rw [List.drop_drop] at hqd
      obtain ⟨vq', hvq⟩ : ∃ v, v = Value.slice (if qc = (1 : Int).toNat then some ⟨qg, qo, none⟩ else (some (⟨qg, qo, none⟩ : Addr)).map (·.add ((1 : Int).toNat * 4))) (L - (1 : Int).toNat) (qc - (1 : Int).toNat) := ⟨_, rfl⟩
      rw [← hvq] at hcut
      have hqd' : kRea.Q 205 wr w.heap.size (fun _ => True) vq' ((bfsS p n i).1.drop (i + 1)) := by rw [hvq]; exact hqd
      have HQD := Lib.hid hqd'
      have HCUT := Lib.hid hcut
      have HMW := Lib.hid hMw
      have HAT := Lib.hid hat
      have HOK := Lib.hid hOk
      have HNM := Lib.hid (And.intro hnm hnl)
      have HNL : Hid (nl ≤ 1000000) := Lib.hid (by
        have h1 := depth (step := stp p) (ops := opsN n) (s0 := first n) i now (List.mem_of_getElem? hat)
        omega)
      have HLL := Lib.hid hL
      clear hq hqb hql hce hM hcell hd0 hMw h1 h2 h3 e1 e2 e3 hnm hnl hqd hqd' hvq hat hOk hL hlt
      clear hi205 hz205
      have L0 : decide (0 < (L : Int)) = true := decide_eq_true (by omega)
      have L1 : decide (0 < L) = true := decide_eq_true (by omega)
      obtain ⟨G, hG⟩ : ∃ G, wr.heap.size = G := ⟨_, rfl⟩
      have hbG : Below wr.heap.size wr (wr.alloc (.cells #[.slice A1 n k1, .slice A2 n k2, .bool nm, .slice A3 nl k3] 205)) := (Below.refl _ _).alloc (Nat.le_refl _) _
      have hSW := HS.out.after hbG
      have hNW : NowAt w (wr.alloc (.cells #[.slice A1 n k1, .slice A2 n k2, .bool nm, .slice A3 nl k3] 205)) G now [.slice A1 n k1, .slice A2 n k2, .bool nm, .slice A3 nl k3] := ⟨Kd.M_below HMW.out hbG, by rw [← hG]; exact heap_alloc_new wr _⟩
      have hQW := Kd.Q_below HQD.out hbG
      have hpM : kSys.M (wr.alloc (.cells #[.slice A1 n k1, .slice A2 n k2, .bool nm, .slice A3 nl k3] 205)) w.heap.size (fun k => True ∧ some k ≠ u9.ownBlock) now.1 [.slice A1 n k1, .slice A2 n k2, .bool nm] := by
        obtain ⟨c0, c1, e, m0, _⟩ := hNW.m
        obtain ⟨w1, w2, rfl, m1, m2⟩ := kSys_openM m0
        simp at e
        obtain ⟨rfl, rfl, e3, _⟩ := e
        have h9 := M_apart' m0 (Kd.R_typed hSW.s) (by decide)
        rw [← e3] at h9
        exact h9
      have hGs : some G ≠ u9.ownBlock := fun e => by have := Kd.R_lt HS.out.s G e.symm; omega
      have hGq : some G ≠ vq'.ownBlock := fun e => by have := Kd.Q_lt HQD.out G e.symm; omega
      have HSW := Lib.hid hSW
      have HNW := Lib.hid hNW
      have HQW := Lib.hid hQW
      have HPM := Lib.hid hpM
      have HGS := Lib.hid (And.intro hGs hGq)
      have HGG := Lib.hid hG
      have hwz : w.heap.size ≤ wr.heap.size := HS.out.below.size
      have HWZ := Lib.hid hwz
      have hcut := HCUT.out
      have HBB : Hid (PBx w (wr.alloc (.cells #[.slice A1 n k1, .slice A2 n k2, .bool nm, .slice A3 nl k3] 205)) p AA cc) := Lib.hid (HPB.out.after hbG)
      clear hG hbG hSW hNW hQW hpM hGs hGq hwz
      go_wp2_with (at_builtin; refine Kd.R_append kSys (w0 := w) w.heap.size rfl (.tmp 38) (.tmp 41) 129 60 (.agg #[.slice none 0 0, .slice none 0 0, .bool false]) 56 rfl Try.underlying129 info60 rfl (by decide) (by omega) u9 (((bfsS p n i).1.take i).map Prod.fst) now.1 [.slice A1 n k1, .slice A2 n k2, .bool nm] (fun _ => True) (fun k => True ∧ some k ≠ u9.ownBlock) rfl (by first | (go_simp; done) | (go_simp; rfl)) HPM.out (fun k hk => hk) (fun _ _ => trivial) HSW.out.s HSW.out.below (by have := HWZ.out; simp; omega) (by simp; have := HLE.out; have := HI.out; omega) ?_; intro v5 w5 hR5 hB5 hG5 hat5)
      obtain ⟨hS5, hN5⟩ := XS.pop HSW.out HNW.out HAT.out HQW.out hR5 hB5 hG5 HGS.out.1
      have hP5 := HBB.out.grown hG5 (Kd.R_ne HSW.out.s HBB.out (by decide))
      have HS5 := Lib.hid hS5
      have HN5 := Lib.hid hN5
      have HP5 := Lib.hid hP5
      have hi1 : i + 1 ≤ (bfsS p n i).1.length := (List.getElem?_eq_some_iff.1 HAT.out).1
      have HI1 := Lib.hid hi1
      obtain ⟨st0, hst0⟩ : ∃ st, bfsS p n i = st := ⟨_, rfl⟩
      rw [hst0] at HS5 HI1
      have HST0 := Lib.hid hst0
      have HBN : Hid (exK p now n 3 st0 = bfsS p n (i + 1)) := Lib.hid (by rw [← hst0]; exact (bfsS_succ p n i now HAT.out).symm)
      clear hR5 hB5 hG5 hat5 hS5 hN5 hP5 hi1 hst0 HSW HNW HQW HPM HBB HS HPB HCUT HQD hcut d0 d1 d2 d3 L0 L1
      have HQ5 : Hid (some G ≠ vq'.ownBlock) := Lib.hid HGS.out.2
      clear HGS
      simp only [HGG.out]
      go_loopg [7, 10, 43] 3 (fun kk vq vf vk wr => ∃ k : Nat, k + kk = 3 ∧ vk = .int .i64 k ∧ Hid (XS w wr n mb (i + 1) (exK p now n k st0) vq v5 vf) ∧ Hid (NowAt w wr G now [.slice A1 n k1, .slice A2 n k2, .bool nm, .slice A3 nl k3]) ∧ Hid (PBx w wr p AA cc) ∧ Hid (some G ≠ vq.ownBlock) ∧ Hid (i + 1 ≤ (exK p now n k st0).1.length))
      case atStart => exact ⟨0, rfl, rfl, HS5, HN5, HP5, HQ5, HI1⟩
      case round =>
        obtain ⟨k, hkk, rfl, HSk, HNk, HPk, HQk, HIk⟩ := hrel
        by_cases hk3 : k < 3
        · have kb : decide ((k : Int) < 3) = true := decide_eq_true (by omega)
          obtain ⟨stk, hstk⟩ : ∃ st, exK p now n k st0 = st := ⟨_, rfl⟩
          rw [hstk] at HSk HIk
          have HSTK := Lib.hid hstk
          clear hstk
          go_wp2_with fail
          go_loopg [7, 10, 47] n (fun kk vq vf vc wr => ∃ c : Nat, c + kk = n ∧ vc = .int .i64 c ∧ Hid (XS w wr n mb (i + 1) (exC p now k c stk) vq v5 vf) ∧ Hid (NowAt w wr G now [.slice A1 n k1, .slice A2 n k2, .bool nm, .slice A3 nl k3]) ∧ Hid (PBx w wr p AA cc) ∧ Hid (some G ≠ vq.ownBlock) ∧ Hid (i + 1 ≤ (exC p now k c stk).1.length))
          case atStart => exact ⟨0, by omega, rfl, HSk, HNk, HPk, HQk, HIk⟩
          case round =>
            clear HSk HNk HPk HQk HIk
            obtain ⟨c, hcc, rfl, HSc, HNc, HPc, HQc, HIc⟩ := hrel
            by_cases hcn : c < n
            · have cb : decide ((c : Int) < (n : Int)) = true := decide_eq_true (by omega)
              obtain ⟨stc, hstc⟩ : ∃ st, exC p now k c stk = st := ⟨_, rfl⟩
              rw [hstc] at HSc HIc
              have HSTC := Lib.hid hstc
              have HLC : Hid (stc.1.length ≤ 1024) := Lib.hid (by
                have h1 := part_le p now n st0 hk3 (Nat.le_of_lt hcn)
                rw [HBN.out, HSTK.out, hstc] at h1
                exact Nat.le_trans h1 (nodes_le HP.out h0 hn (i + 1)))
              have hoc := HNc.out.open HOK.out
              obtain ⟨_, _, _, _, _, _, e9, eA, eB, eO⟩ := hoc
              rw [HNM.out.1, HNM.out.2] at e9
              simp at e9
              obtain ⟨⟨rfl, rfl⟩, ⟨rfl, rfl⟩, rfl, rfl⟩ := e9
              rw [HNM.out.2] at eO
              have HEA := Lib.hid eA
              have HEB := Lib.hid eB
              have HEO := Lib.hid eO
              obtain ⟨m0, m1, m2, m3⟩ := cel4 HNc.out.box
              obtain ⟨p0, p1, p2, p3, p4⟩ := box5 HPc.out
              clear hstc eA eB eO
              go_wp2_with fail
              have hcl := clone A1 A2 n k1 k2 now.1 wr h0 hn HEA.out HEB.out
              rw [HNM.out.1] at hcl
              refine hcl.mono ?_
              clear hcl
              rintro e w6 ⟨v6, rfl, hf, hb6⟩
              obtain ⟨xa, xb, xca, xcb, rfl, hxa, hxb, hrxa, hrxb⟩ := hf
              rw [HNM.out.1]
              have HB6 := Lib.hid hb6
              have HRXA := Lib.hid hrxa
              have HRXB := Lib.hid hrxb
              have HXX := Lib.hid (And.intro hxa hxb)
              have hP6 := HPc.out.after hb6
              have hbx : ∀ o1 o2, _ ∧ _ := fun o1 o2 => box5 (b := w.heap.size) ((Below.heap_alloc (w6.alloc o1) o2 w.heap.size (by have := heap_lt hP6; simp; omega)).trans ((Below.heap_alloc w6 o1 w.heap.size (heap_lt hP6)).trans hP6))
              have b0 := fun o1 o2 => (hbx o1 o2).1
              have b1 := fun o1 o2 => (hbx o1 o2).2.1
              have b2 := fun o1 o2 => (hbx o1 o2).2.2.1
              have b3 := fun o1 o2 => (hbx o1 o2).2.2.2.1
              have b4 := fun o1 o2 => (hbx o1 o2).2.2.2.2
              clear hb6 hrxa hrxb hxa hxb hP6 hbx m0 m1 m2 m3 p0 p1 p2 p3 p4
              go_wp2_with fail
              obtain ⟨w7, hw7⟩ : ∃ w7, w7 = (w6.alloc (.cells #[.int .i64 k, .int .i64 c] 72)).alloc (.cells #[.slice (some ⟨xa, 0, none⟩) n xca, .slice (some ⟨xb, 0, none⟩) n xcb, .bool nm] 60) := ⟨_, rfl⟩
              obtain ⟨g, hg⟩ : ∃ g, w6.heap.size = g := ⟨_, rfl⟩
              have hb67 : Below w6.heap.size w6 w7 := by rw [hw7]; exact below_al2 _ _ _
              have hxg : xa < g ∧ xb < g := by
                obtain ⟨_, e1⟩ := R_blk HRXA.out
                obtain ⟨_, e2⟩ := R_blk HRXB.out
                have h1 := heap_lt e1
                have h2 := heap_lt e2
                omega
              have hs7 : w7.heap.size = g + 2 := by rw [hw7, ← hg]; simp
              have ho7 : w7.heap[g]? = some (.cells #[.int .i64 k, .int .i64 c] 72 (0, 0)) := by rw [hw7, ← hg, Below.heap_alloc _ _ _ (by simp)]; exact heap_alloc_new w6 _
              have hx7 : w7.heap[g + 1]? = some (.cells #[.slice (some ⟨xa, 0, none⟩) n xca, .slice (some ⟨xb, 0, none⟩) n xcb, .bool nm] 60 (0, 0)) := by rw [hw7, ← hg]; simpa using heap_alloc_new (w6.alloc _) _
              have hS7 : SysAt w7 (g + 1) xa xb n xca xcb now.1 := ⟨by rw [HNM.out.1]; exact hx7, Kd.R_lower (Kd.R_below HRXA.out hb67) (Nat.zero_le _), Kd.R_lower (Kd.R_below HRXB.out hb67) (Nat.zero_le _)⟩
              have hbw7 : Below wr.heap.size wr w7 := below_tr HB6.out hb67
              have hge : ∀ q, own3 (g + 1) xa xb q → wr.heap.size ≤ q := by have := HB6.out.size; have := HXX.out; rintro q (rfl | rfl | rfl) <;> omega
              have hwr7 : wr.heap.size ≤ w7.heap.size := hbw7.size
              have key : ∀ w1, Chg (own3 (g + 1) xa xb) w7 w1 → Below wr.heap.size wr w1 := fun w1 hc => hbw7.trans (hc.below hwr7 hge)
              have hok := step (g + 1) xa xb n xca xcb now.1 p _ ⟨(k : Int), (c : Int)⟩ w7 hS7 h0 hn (fun w1 hc => HV.out.below (HSc.out.below.trans ((key w1 hc).mono HSc.out.below.size))) (by simp) (by simp; omega) (fun j _ => HOK.out.bd j) (valid_tabs HP.out) (by simp; omega)
              have hyk := HOK.out.step HP.out ⟨(k : Int), (c : Int)⟩ (by simp) (by simp; omega)
              rw [← hw7]
              simp only [hg]
              refine hok.mono ?_
              clear hok hw7 hb67 hS7 hbw7 hwr7 hx7
              rintro e w8 ⟨rfl, hS8, hC8⟩
              obtain ⟨Z, hZ⟩ : ∃ Z, stepS p now.1 ⟨(k : Int), (c : Int)⟩ = Z := ⟨_, rfl⟩
              rw [hZ] at hS8 hyk
              rw [hZ]
              have HZ8 := Lib.hid hZ
              obtain ⟨y, fl, sn, bk⟩ := Z
              simp only at hS8 hyk
              have hb8 := key w8 hC8
              have ho8 := (hC8.block g (by omega) (by intro hq; rcases hq with hq | hq | hq <;> omega)).trans ho7
              have HS8 := Lib.hid hS8
              have HY8 := Lib.hid hyk
              have HX8 := Lib.hid (HSc.out.after hb8)
              have HN8 := Lib.hid (HNc.out.after hb8)
              have HP8 := Lib.hid (HPc.out.after hb8)
              have HO8 := Lib.hid (Kd.C_below HEO.out hb8)
              have HB8 := Lib.hid hb8
              have HGE := Lib.hid hge
              have hg8 : g < w8.heap.size := heap_lt ho8
              have HG8 := Lib.hid hg8
              have q3 := (cel4 HN8.out.box).2.2.2
              have o0 := cell_blk ho8 0 _ rfl
              have o1 := cell_blk ho8 1 _ rfl
              have HO14 := Lib.hid ho8
              clear hxg hZ hS8 hyk hb8 ho8 ho7 hC8 hge key hs7 hg b0 b1 b2 b3 b4 hg8
              go_wp2_with fail
              refine start_ (n := 7) (S := fun w' => w'.cell? ⟨G, 3, none⟩ = some (.slice A3 nl k3) ∧ w'.cell? ⟨g, 0, none⟩ = some (.int .i64 k) ∧ w'.cell? ⟨g, 1, none⟩ = some (.int .i64 c) ∧ Below w8.heap.size w8 w') (ds := [5]) #[false, false, false, false, false, false, false] (by kernel_rfl) rfl rfl ⟨q3, o0, o1, (Below.refl _ _).drew⟩ (fun hHeld => ?_)
              refine pure_ (i := 0) (N := some 63) (v := ?_) (a' := ?_) #[true, false, false, false, false, false, false] rfl rfl (by kernel_rfl) (fun _ _ _ h => h) (Or.inl ⟨by rfl, ?_⟩) ?_ ?_
              rotate_left
              · intro w'
                go_simp
                with_reducible rfl
              rotate_left
              · simp only [Act.put, List.setIfInBounds_toArray, List.set_cons_zero, List.set_cons_succ, i64_w, i32_w]
                rfl
              refine take_ (i := 1) (N := some 64) (v := ?_) (a' := ?_) #[true, true, false, false, false, false, false] rfl rfl (by kernel_rfl) (fun _ _ _ h => h) (Or.inl ⟨by rfl, ?_⟩) hHeld ?_ ?_
              rotate_left
              · rintro w' ⟨s0, s1, s2, s3⟩
                go_simp
                with_reducible rfl
              rotate_left
              · simp only [Act.put, List.setIfInBounds_toArray, List.set_cons_zero, List.set_cons_succ, i64_w, i32_w]
                rfl
              refine take_ (i := 3) (N := some 66) (v := ?_) (a' := ?_) #[true, true, false, true, false, false, false] rfl rfl (by kernel_rfl) (fun _ _ _ h => h) (Or.inl ⟨by rfl, ?_⟩) hHeld ?_ ?_
              rotate_left
              · rintro w' ⟨s0, s1, s2, s3⟩
                go_simp
                with_reducible rfl
              rotate_left
              · simp only [Act.put, List.setIfInBounds_toArray, List.set_cons_zero, List.set_cons_succ, i64_w, i32_w]
                rfl
              refine join_ (σ := Value × Nat) 2 #[true, true, true, true, true, false, false] (fun s => [(65, s.1), (67, .slice (some ⟨s.2, 0, none⟩) 1 1)]) (fun s w' => kOp.R 72 w' w.heap.size (fun _ => True) s.1 now.2 ∧ kOp.C w' (some ⟨s.2, 0, none⟩) 1 [⟨(k : Int), (c : Int)⟩] ∧ Below w8.heap.size w8 w' ∧ ∀ q, s.1.ownBlock = some q → w8.heap.size ≤ q) ?_ ?_
              rotate_left
              · intro hCont
                refine two_ (i := 2) (j := 4) (Ni := some 65) (Nj := some 67) #[true, true, true, true, false, false, false] #[true, true, false, true, true, false, false] rfl rfl rfl rfl (by kernel_rfl) (by decide) (by decide) (fun K hK => ?_) (fun K hK => ?_)
                · skip
                  have hOC : kOp.C _ A3 nl now.2 := Kd.C_below HO8.out (Below.mono hHeld.2.2.2 (Nat.le_refl _))
                  refine goes_ Try.func154 (by kernel_rfl) rfl #[.slice A3 nl k3] (by rfl) rfl rfl (by simp only [List.map_toArray, List.map_cons, List.map_nil]; rfl) ?_
                  with_reducible refine (clone154 A3 k3 nl now.2 _ hOC HNL.out).mono ?_
                  rintro e wk ⟨vo, rfl, hRo, hbk⟩
                  refine ⟨_, rfl, ?_⟩
                  have hvo : ∀ q, vo.ownBlock = some q → w8.heap.size ≤ q := fun q hq => Nat.le_trans hHeld.2.2.2.size (hRo.1 q hq)
                  have hRo2 : kOp.R 72 wk w.heap.size (fun _ => True) vo now.2 := Kd.R_mono (Kd.R_lower hRo (Nat.le_trans HX8.out.below.size hHeld.2.2.2.size)) (fun _ _ => trivial)
                  refine hK.out _ _ ⟨(cell_old hbk hHeld.1), (cell_old hbk hHeld.2.1), (cell_old hbk hHeld.2.2.1), (hHeld.2.2.2.trans (hbk.mono hHeld.2.2.2.size))⟩ (fun hHeld => ?_)
                  clear hK K
                  refine norm_ (a' := ?_) ?_ ?_
                  rotate_left
                  · show Act.put _ (some 65) _ = _
                    simp only [Act.put, List.setIfInBounds_toArray, List.set_cons_zero, List.set_cons_succ, i64_w, i32_w]
                    rfl
                  refine one_ (i := 4) (N := some 67) #[true, true, true, true, true, false, false] rfl rfl (by kernel_rfl) (by decide) (fun K hK => ?_)
                  refine value_ (w1 := ?_) (v := ?_) (by rfl) rfl ?_ ?_
                  rotate_left 2
                  · go_simp
                    constructor
                    · rfl
                    · rfl
                  have hq1 := one_of (k := k) (c := c) (s := wk.heap.size) hHeld.2.2.2 (by first | rfl | simp)
                  have hRo2 := Kd.R_below hRo2 ((Below.refl _ _).alloc (Nat.le_refl _) (.cells #[.int .i64 k, .int .i64 c] 72))
                  refine hK.out _ _ ⟨(cell_old ((Below.refl _ _).alloc (Nat.le_refl _) (.cells #[.int .i64 k, .int .i64 c] 72)) hHeld.1), (cell_old ((Below.refl _ _).alloc (Nat.le_refl _) (.cells #[.int .i64 k, .int .i64 c] 72)) hHeld.2.1), (cell_old ((Below.refl _ _).alloc (Nat.le_refl _) (.cells #[.int .i64 k, .int .i64 c] 72)) hHeld.2.2.1), (hHeld.2.2.2.alloc hHeld.2.2.2.size _)⟩ (fun hHeld => ?_)
                  clear hK K
                  refine norm_ (a' := ?_) ?_ ?_
                  rotate_left
                  · show Act.put _ (some 67) _ = _
                    simp only [Act.put, List.setIfInBounds_toArray, List.set_cons_zero, List.set_cons_succ, i64_w, i32_w]
                    rfl
                  exact norm_ (by simp only [putAll, Act.put, List.setIfInBounds_toArray, List.set_cons_zero, List.set_cons_succ]) (hCont (vo, wk.heap.size) _ ⟨hRo2, hq1, hHeld.2.2.2, hvo⟩)
                · skip
                  refine value_ (w1 := ?_) (v := ?_) (by rfl) rfl ?_ ?_
                  rotate_left 2
                  · go_simp
                    constructor
                    · rfl
                    · rfl
                  have hq1 := one_of (k := k) (c := c) (s := w8.heap.size) hHeld.2.2.2 (by first | rfl | simp)
                  refine hK.out _ _ ⟨(cell_old ((Below.refl _ _).alloc (Nat.le_refl _) (.cells #[.int .i64 k, .int .i64 c] 72)) hHeld.1), (cell_old ((Below.refl _ _).alloc (Nat.le_refl _) (.cells #[.int .i64 k, .int .i64 c] 72)) hHeld.2.1), (cell_old ((Below.refl _ _).alloc (Nat.le_refl _) (.cells #[.int .i64 k, .int .i64 c] 72)) hHeld.2.2.1), (hHeld.2.2.2.alloc hHeld.2.2.2.size _)⟩ (fun hHeld => ?_)
                  clear hK K
                  refine norm_ (a' := ?_) ?_ ?_
                  rotate_left
                  · show Act.put _ (some 67) _ = _
                    simp only [Act.put, List.setIfInBounds_toArray, List.set_cons_zero, List.set_cons_succ, i64_w, i32_w]
                    rfl
                  refine one_ (i := 2) (N := some 65) #[true, true, true, true, true, false, false] rfl rfl (by kernel_rfl) (by decide) (fun K hK => ?_)
                  have hOC : kOp.C _ A3 nl now.2 := Kd.C_below HO8.out (Below.mono hHeld.2.2.2 (Nat.le_refl _))
                  refine goes_ Try.func154 (by kernel_rfl) rfl #[.slice A3 nl k3] (by rfl) rfl rfl (by simp only [List.map_toArray, List.map_cons, List.map_nil]; rfl) ?_
                  with_reducible refine (clone154 A3 k3 nl now.2 _ hOC HNL.out).mono ?_
                  rintro e wk ⟨vo, rfl, hRo, hbk⟩
                  refine ⟨_, rfl, ?_⟩
                  have hvo : ∀ q, vo.ownBlock = some q → w8.heap.size ≤ q := fun q hq => Nat.le_trans hHeld.2.2.2.size (hRo.1 q hq)
                  have hRo2 : kOp.R 72 wk w.heap.size (fun _ => True) vo now.2 := Kd.R_mono (Kd.R_lower hRo (Nat.le_trans HX8.out.below.size hHeld.2.2.2.size)) (fun _ _ => trivial)
                  have hq1 := Kd.C_below hq1 hbk
                  refine hK.out _ _ ⟨(cell_old hbk hHeld.1), (cell_old hbk hHeld.2.1), (cell_old hbk hHeld.2.2.1), (hHeld.2.2.2.trans (hbk.mono hHeld.2.2.2.size))⟩ (fun hHeld => ?_)
                  clear hK K
                  refine norm_ (a' := ?_) ?_ ?_
                  rotate_left
                  · show Act.put _ (some 65) _ = _
                    simp only [Act.put, List.setIfInBounds_toArray, List.set_cons_zero, List.set_cons_succ, i64_w, i32_w]
                    rfl
                  exact norm_ (by simp only [putAll, Act.put, List.setIfInBounds_toArray, List.set_cons_zero, List.set_cons_succ]) (hCont (vo, w8.heap.size) _ ⟨hRo2, hq1, hHeld.2.2.2, hvo⟩)
              rintro ⟨vo, q1⟩ w9 ⟨hRo, hq1, hb89, hvo⟩
              have hHeld := trivial
              refine norm_ (a' := ?_) ?_ ?_
              rotate_left
              · simp only [putAll, Act.put, List.setIfInBounds_toArray, List.set_cons_zero, List.set_cons_succ]
                rfl
              refine last_ (i := 5) (N := some 68) #[true, true, true, true, true, true, false] rfl rfl (by kernel_rfl) (by decide) (fun K hK => ?_)
              refine Kd.R_append_rows_step kOp (Rr := kOp.K w9) (w0 := w) w.heap.size (by rfl) (.tmp 65) (.tmp 67) 52 72 (.agg #[.int .i64 0, .int .i64 0]) 16 rfl Try.underlying52 info72 rfl (by decide) (by omega) vo now.2 [⟨(k : Int), (c : Int)⟩] (some ⟨q1, 0, none⟩) 1 1 (fun _ => True) (fun _ => False) rfl rfl hRo hq1 (fun x cs hk => by rw [kOp_open hk]; exact kOp_mkM _ _ _ x) (fun _ h => h.elim) (fun _ _ => trivial) (HX8.out.below.trans (hb89.mono HX8.out.below.size)) (Nat.le_trans HX8.out.below.size hb89.size) (by rw [HNM.out.2]; have := HNL.out; omega) ?_
              intro v10 w10 hR10 hB10 hG10 hat10
              refine hK.out _ _ ?_
              clear hK K
              refine norm_ (a' := ?_) ?_ ?_
              rotate_left
              · show Act.put _ (some 68) _ = _
                simp only [Act.put, List.setIfInBounds_toArray, List.set_cons_zero, List.set_cons_succ, i64_w, i32_w]
                rfl
              refine pure_ (i := 6) (N := some 19) (v := ?_) (a' := ?_) #[true, true, true, true, true, true, true] rfl rfl (by kernel_rfl) (fun _ _ _ h => h) (Or.inl ⟨by rfl, ?_⟩) ?_ ?_
              rotate_left
              · intro w'
                go_simp
                with_reducible rfl
              rotate_left
              · simp only [Act.put, List.setIfInBounds_toArray, List.set_cons_zero, List.set_cons_succ, i64_w, i32_w]
                rfl
              refine done_ (by kernel_rfl) ?_
              have hb10 : Below w8.heap.size w8 w10 := hb89.grown hG10 hb89.size (fun q hq => hvo q hq)
              have HX10 := Lib.hid (HX8.out.after hb10)
              have HN10 := Lib.hid (HN8.out.after hb10)
              have HP10 := Lib.hid (HP8.out.after hb10)
              have HS10 := Lib.hid (HS8.out.below hb10)
              have HR10 := Lib.hid hR10
              obtain ⟨A10, k10, hv10⟩ := Kd.R_slice hR10
              obtain ⟨l10, hl10⟩ : ∃ l, (now.2 ++ [(⟨(k : Int), (c : Int)⟩ : Op)]).length = l := ⟨_, rfl⟩
              rw [hl10] at hv10
              subst hv10
              have HR10 := Lib.hid hR10
              clear hl10
              have HXL : Hid (w.heap.size ≤ xa ∧ w.heap.size ≤ xb) := Lib.hid (by have := HXX.out; have := HSc.out.below.size; omega)
              clear hRo hq1 hb89 hvo hHeld hR10 hB10 hG10 hat10 hb10 HX8 HN8 HP8 HO8 HB8 HO14 HG8 HGE q3 o0 o1 HRXA HRXB HB6 HXX HSc HNc HPc HEA HEB HEO
              have hf10 := HX10.out.f
              obtain ⟨fA, fn, fc, hfv⟩ := hf10.shape
              subst hfv
              have HEXC : Hid (exC p now k (c + 1) stk = exp1 (stp p) now stc ⟨(k : Int), (c : Int)⟩) := Lib.hid (by rw [exC, HSTC.out])
              cases fl with
              | true =>
                have heq := hf10.eqNil
                have hex : exp1 (stp p) now stc ⟨(k : Int), (c : Int)⟩ = (stc.1, orF stc.2 (now.2 ++ [⟨(k : Int), (c : Int)⟩])) := exp1_flaw (step := stp p) (now := now) (st := stc) (o := ⟨(k : Int), (c : Int)⟩) (by show (stepS p now.1 ⟨(k : Int), (c : Int)⟩).2.1 = true; rw [HZ8.out])
                cases hs2 : stc.2 with
                | none =>
                  rw [hs2] at hex heq
                  simp only [Option.isNone_none, orF] at heq hex
                  have HEX2 := Lib.hid (HEXC.out.trans hex)
                  clear hf10 hex hs2
                  go_wp2_with fail
                  go_roundg (n - (c + 1))
                  case measure => omega
                  case rel => exact ⟨c + 1, by omega, by go_num, Lib.hid (by rw [HEX2.out]; exact HX10.out.flaw (by simp) HR10.out), HN10, HP10, HQc, Lib.hid (by rw [HEX2.out]; exact HIc.out)⟩
                | some f =>
                  rw [hs2] at hex heq
                  simp only [Option.isNone_some, orF] at heq hex
                  have HEX2 : Hid (exC p now k (c + 1) stk = stc) := Lib.hid (by rw [HEXC.out, hex, ← hs2])
                  clear hf10 hex hs2
                  go_wp2_with fail
                  go_roundg (n - (c + 1))
                  case measure => omega
                  case rel => exact ⟨c + 1, by omega, by go_num, Lib.hid (by rw [HEX2.out]; exact HX10.out), HN10, HP10, HQc, Lib.hid (by rw [HEX2.out]; exact HIc.out)⟩
              | false =>
                have hy1 : stp p now.1 ⟨(k : Int), (c : Int)⟩ = (y, false) := by show ((stepS p now.1 ⟨(k : Int), (c : Int)⟩).1, (stepS p now.1 ⟨(k : Int), (c : Int)⟩).2.1) = _; rw [HZ8.out]
                have HY1 := Lib.hid hy1
                obtain ⟨s0, s1, s2, _⟩ := HS10.out.cells
                have hCa := (R_len HS10.out.rc).2.2
                have hCb := (R_len HS10.out.rf).2.2
                have HCA := Lib.hid hCa
                have HCB := Lib.hid hCb
                clear hf10 hy1 hCa hCb
                go_wp2_with fail
                refine (key153 _ _ n _ _ y _ h0 hn HY8.out HCA.out HCB.out).mono ?_
                rintro e w11 ⟨rfl, hb11⟩
                have hX11 := HX10.out.after hb11
                obtain ⟨fm, hm11, hsn⟩ := hX11.m
                have hlook := hm11.look law9 Try.underlying207 (zero4 w11) (keyOf_key hn HY8.out)
                have hsy := hsn y HY8.out
                have HX11 := Lib.hid hX11
                have HN11 := Lib.hid (HN10.out.after hb11)
                have HP11 := Lib.hid (HP10.out.after hb11)
                have HS11 := Lib.hid (HS10.out.below hb11)
                have HR11 := Lib.hid (Kd.R_below HR10.out hb11)
                have HM11 := Lib.hid hm11
                have HSN := Lib.hid hsn
                clear s0 s1 s2 hb11 hX11 hm11 hsn HX10 HN10 HP10 HS10 HR10 HCA HCB
                by_cases hmem : y ∈ stc.1.map Prod.fst
                · rw [hsy, if_pos hmem] at hlook
                  simp only [Option.getD_some] at hlook
                  have HEX2 : Hid (exC p now k (c + 1) stk = stc) := Lib.hid (by
                    rw [HEXC.out]; exact exp1_old (step := stp p) (by rw [HY1.out]) (by rw [HY1.out]; exact hmem))
                  clear hsy hmem
                  go_wp2_with fail
                  go_roundg (n - (c + 1))
                  case measure => omega
                  case rel => exact ⟨c + 1, by omega, by go_num, Lib.hid (by rw [HEX2.out]; exact HX11.out), HN11, HP11, HQc, Lib.hid (by rw [HEX2.out]; exact HIc.out)⟩
                · rw [hsy, if_neg hmem] at hlook
                  simp only [Option.getD_none] at hlook
                  have HEX2 : Hid (exC p now k (c + 1) stk = (stc.1 ++ [(y, now.2 ++ [⟨(k : Int), (c : Int)⟩])], stc.2)) := Lib.hid (by
                    rw [HEXC.out, exp1_new (step := stp p) (by rw [HY1.out]) (by rw [HY1.out]; exact hmem), HY1.out])
                  clear hsy hmem
                  obtain ⟨s0, s1, s2, _⟩ := HS11.out.cells
                  have hCa := (R_len HS11.out.rc).2.2
                  have hCb := (R_len HS11.out.rf).2.2
                  have HCA := Lib.hid hCa
                  have HCB := Lib.hid hCb
                  clear hCa hCb
                  go_wp2_with fail
                  refine (key153 _ _ n _ _ y _ h0 hn HY8.out HCA.out HCB.out).mono ?_
                  rintro e w12 ⟨rfl, hb12⟩
                  have HX12 := Lib.hid (HX11.out.after hb12)
                  have HN12 := Lib.hid (HN11.out.after hb12)
                  have HP12 := Lib.hid (HP11.out.after hb12)
                  have hS12 := HS11.out.below hb12
                  have hR12 := Kd.R_below HR11.out hb12
                  have hm12 := HM11.out.below hb12
                  have him := isMapB hm12
                  obtain ⟨w13, hrun, hm13, hg13⟩ := hm12.update law9 Try.underlying207 (by have := HLC.out; unfold maxLen; omega) (keyOf_key hn HY8.out) (.bool true)
                  have hq13 := Q_map HX12.out.q him hg13
                  have hR13 := R_map hR12 him hg13
                  have hS13 := hS12.map him hg13
                  have hB13 : Below w.heap.size w w13 := HX12.out.below.grown hg13 HX12.out.below.size (fun q hq => by injection hq with hq; rw [← hq]; exact HX12.out.mb)
                  have hP13 := HP12.out.grown hg13 (fun e => ne_map him HP12.out (by injection e))
                  have hpM : kRea.M w13 w.heap.size (fun q => True ∧ some q ≠ u7.ownBlock) (y, now.2 ++ [⟨(k : Int), (c : Int)⟩]) ([.slice (some ⟨xa, 0, none⟩) n xca, .slice (some ⟨xb, 0, none⟩) n xcb, .bool y.m, .slice A10 l10 k10]) :=
                    M_apart' (kRea_mkM (q := (y, now.2 ++ [⟨(k : Int), (c : Int)⟩])) (kSys_mkM (R_raise hS13.rc HXL.out.1 trivial) (R_raise hS13.rf HXL.out.2 trivial)) hR13) (Kd.Q_typed hq13) (by decide)
                  obtain ⟨s0, s1, s2, _⟩ := hS13.cells
                  have HQ13 := Lib.hid hq13
                  have HPM := Lib.hid hpM
                  have HB13 := Lib.hid hB13
                  have HP13 := Lib.hid hP13
                  have HM13 := Lib.hid hm13
                  have HG13 := Lib.hid hg13
                  have HIM := Lib.hid him
                  clear hq13 hR13 hS13 hB13 hP13 hpM hm13 hg13 him hS12 hR12 hm12 HS11 HR11 HM11 HX11 HN11 HP11 HCA HCB hlook
                  go_wp2_with (at_builtin; refine Kd.Q_append kRea (w0 := w) w.heap.size rfl (.tmp 83) (.tmp 87) 206 205 (.agg #[.slice none 0 0, .slice none 0 0, .bool false, .slice none 0 0]) 80 rfl Try.underlying206 info205 rfl (by decide) (by omega) u7 (stc.1.drop (i + 1)) (y, now.2 ++ [⟨(k : Int), (c : Int)⟩]) ([.slice (some ⟨xa, 0, none⟩) n xca, .slice (some ⟨xb, 0, none⟩) n xcb, .bool y.m, .slice A10 l10 k10]) (fun _ => True) (fun q => True ∧ some q ≠ u7.ownBlock) rfl (by first | (go_simp; done) | (go_simp; rfl)) HPM.out (fun k hk => hk) (fun _ _ => trivial) HQ13.out HB13.out HB13.out.size (by simp only [List.length_drop]; have := HLC.out; omega) ?_; intro v14 w14 hQ14 hB14 hG14 hat14)
                  obtain ⟨hXS, hNf, hGq⟩ := XS.push HX12.out HN12.out HIc.out HY8.out HSN.out HM13.out HG13.out HIM.out hQ14 hB14 hG14 hat14 HQc.out
                  have hPf := HP13.out.grown hG14 (Kd.Q_ne HQ13.out HP13.out (by decide))
                  go_roundg (n - (c + 1))
                  case measure => omega
                  case rel => exact ⟨c + 1, by omega, by go_num, Lib.hid (by rw [HEX2.out]; exact hXS), Lib.hid hNf, Lib.hid hPf, Lib.hid hGq, Lib.hid (by rw [HEX2.out]; have := HIc.out; simp; omega)⟩
            · obtain rfl : c = n := by omega
              have cb : decide ((c : Int) < (c : Int)) = false := decide_eq_false (by omega)
              have HEK : Hid (exC p now k c stk = exK p now c (k + 1) st0) := Lib.hid (by rw [exK, HSTK.out])
              go_wp2_with fail
              go_roundg (3 - (k + 1))
              case measure => omega
              case rel => exact ⟨k + 1, by omega, by go_num, Lib.hid (by rw [← HEK.out]; exact HSc.out), HNc, HPc, HQc, Lib.hid (by rw [← HEK.out]; exact HIc.out)⟩
        · obtain rfl : k = 3 := by omega
          have hi9 : i + 1 ≤ 1024 := by have h1 := HI1.out; rw [← HST0.out] at h1; have := HLE.out; omega
          go_wp2_with fail
          go_roundg (1100 - (i + 1))
          case measure => omega
          case rel => exact ⟨i + 1, by omega, Lib.hid (by rw [← HBN.out]; exact HIk.out), Lib.hid (by rw [← HBN.out]; exact HSk.out), HPk⟩
    · have hL0 : L = 0 := by rw [← hL, List.length_drop]; omega
      obtain ⟨A, cq, hu, _⟩ := Kd.Q_slice HS.out.q
      rw [hL, hL0] at hu
      subst hu
      have hs9 := HS.out.s
      rw [List.take_of_length_le (by omega)] at hs9
      have HS9 := Lib.hid hs9
      clear hs9 hL hL0
      go_wp2_with fail
      go_ret2
      exact ⟨_, _, i, rfl, by omega, HS9.out, HS.out.f, HS.out.below⟩
end Go.Proofs.Ytfeabjiccnnpcaa.Ca
