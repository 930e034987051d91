import Derived.Test.YtfeabjiccnnpcaaCp
set_option linter.unusedVariables false
set_option linter.unusedSimpArgs false
namespace Go.Proofs.Ytfeabjiccnnpcaa.Ca
open Go.RowKit Go.Proofs.YtfeabjiccnnpcaaW.PrintWords Go.Proofs.YtfeabjiccnnpcaaW.PrintLast Go.Proofs.Ytfeabjiccnnpcaa.Ba

theorem box5 {w : World} {b : Nat} {x0 x1 x2 x3 x4 : Value} {t : TypeId} {fr : Nat × Nat} (h : w.heap[b]? = some (.cells #[x0, x1, x2, x3, x4] t fr)) : w.cell? ⟨b, 0, none⟩ = some x0 ∧ w.cell? ⟨b, 1, none⟩ = some x1 ∧ w.cell? ⟨b, 2, none⟩ = some x2 ∧ w.cell? ⟨b, 3, none⟩ = some x3 ∧ w.cell? ⟨b, 4, none⟩ = some x4 :=
  ⟨cell_blk h 0 _ rfl, cell_blk h 1 _ rfl, cell_blk h 2 _ rfl, cell_blk h 3 _ rfl, cell_blk h 4 _ rfl⟩
theorem SysAt.val {w : World} {g a b n ca cb : Nat} {x : Sys} (h : SysAt w g a b n ca cb x) : SysV w x (.agg #[.slice (some ⟨a, 0, none⟩) n ca, .slice (some ⟨b, 0, none⟩) n cb, .bool x.m]) := by
  obtain ⟨l1, l2⟩ := h.lens
  have h1 := R_len h.rc
  have h2 := R_len h.rf
  refine ⟨_, _, _, _, by rw [l1, l2], by omega, by rw [l1]; exact h1.2.2, by omega, by rw [l2]; exact h2.2.2⟩
theorem okCaches_true {p : Proto} {n : Nat} (hp : validP p = true) (h0 : 0 < n) (hn : n ≤ 3) : okCaches p n = true := by simp [okCaches, hp, inR]; omega

set_option maxHeartbeats 4000000 in
set_option maxRecDepth 100000 in
theorem RunSystem (p : Proto) (v : Value) (n : Nat) (A : Option Addr) (c : Nat) (ops : List Op) (w : World) (hv : ProtoV w p v) (hp : validP p = true) (h0 : 0 < n) (hn : n ≤ 3) (hops : Kd.C kOp w A ops.length ops) (hok : okOps ops n = true) :
    Calls Try.prog 40 #[v, .int .i64 n, .slice A ops.length c] w fun e w' => ∃ sv, e = .returned (.tuple #[sv, .int .i64 (runS p (first n) 0 ops).2, .bool true]) ∧ SysV w' (runS p (first n) 0 ops).1 sv ∧ Below w.heap.size w w' := by
  have HV := Lib.hid hv
  have HOPS := Lib.hid hops
  have HOK := Lib.hid hok
  have HP := Lib.hid hp
  have hlen := okOps_len hok
  obtain ⟨A0, c0, A1, c1, A2, c2, A3, c3, A4, c4, rfl, _⟩ := hv
  clear hops hok hp
  go_enter Try.func40, Try.ntmps40
  go_wp2_with fail
  refine (isCaches p _ n _ (HV.out.below (below_al2 _ _ _))).mono ?_
  rintro e w1 ⟨rfl, hb1⟩
  rw [okCaches_true HP.out h0 hn]
  have hB1 := (below_al2 w _ _).trans (hb1.mono (by simp; omega))
  have HW2 := Lib.hid hb1
  clear hb1
  go_wp2_with fail
  refine (areOps A c ops n _ (Kd.C_below HOPS.out hB1) (by omega) (by omega)).mono ?_
  rintro e w2 ⟨rfl, hb2⟩
  rw [HOK.out]
  go_wp2_with fail
  refine (firstSystem n _ h0 hn).mono ?_
  rintro e w3 ⟨a, b, rfl, hra, hrb, hb3⟩
  have hsz : w.heap.size + 2 ≤ w2.heap.size := by have h1 := HW2.out.size; have h2 := hb2.size; simp at h1; omega
  have hB4 : ∀ o, Below (w.heap.size + 2) ((w.alloc (.cells #[.slice A0 p.rd.length c0, .slice A1 p.wr.length c1, .slice A2 p.ev.length c2, .slice A3 p.sr.length c3, .slice A4 p.sw.length c4] 50)).alloc (.cells #[.slice none 0 0, .slice none 0 0, .bool false] 60)) (w3.alloc o) := fun o =>
    (((HW2.out.mono (by simp)).trans (hb2.mono (by have := HW2.out.size; simp at this; omega))).trans (hb3.mono hsz)).alloc (by have := hb3.size; omega) o
  have hx0 : ((w.alloc (.cells #[.slice A0 p.rd.length c0, .slice A1 p.wr.length c1, .slice A2 p.ev.length c2, .slice A3 p.sr.length c3, .slice A4 p.sw.length c4] 50)).alloc (.cells #[.slice none 0 0, .slice none 0 0, .bool false] 60)).heap[w.heap.size]? = some (.cells #[.slice A0 p.rd.length c0, .slice A1 p.wr.length c1, .slice A2 p.ev.length c2, .slice A3 p.sr.length c3, .slice A4 p.sw.length c4] 50 (0, 0)) := by
    rw [Below.heap_alloc _ _ _ (by simp)]; exact heap_alloc_new w _
  have hx1 : ((w.alloc (.cells #[.slice A0 p.rd.length c0, .slice A1 p.wr.length c1, .slice A2 p.ev.length c2, .slice A3 p.sr.length c3, .slice A4 p.sw.length c4] 50)).alloc (.cells #[.slice none 0 0, .slice none 0 0, .bool false] 60)).heap[w.heap.size + 1]? = some (.cells #[.slice none 0 0, .slice none 0 0, .bool false] 60 (0, 0)) := by
    have := heap_alloc_new (w.alloc (.cells #[.slice A0 p.rd.length c0, .slice A1 p.wr.length c1, .slice A2 p.ev.length c2, .slice A3 p.sr.length c3, .slice A4 p.sw.length c4] 50)) (.cells #[.slice none 0 0, .slice none 0 0, .bool false] 60)
    simpa using this
  have hBw : ∀ o, Below w.heap.size w (w3.alloc o) := fun o => (below_al2 w _ _).trans ((hB4 o).mono (by omega))
  have hga : w2.heap.size ≤ a ∧ a < w3.heap.size := by
    obtain ⟨_, _, e1, h1, h2, _, _⟩ := Kd.R_form hra (by simp [first]; omega)
    injection e1 with e1; injection e1 with e1; injection e1 with e1; subst e1; exact ⟨h1, h2⟩
  have hgb : w2.heap.size ≤ b ∧ b < w3.heap.size := by
    obtain ⟨_, _, e1, h1, h2, _, _⟩ := Kd.R_form hrb (by simp [first]; omega)
    injection e1 with e1; injection e1 with e1; injection e1 with e1; subst e1; exact ⟨h1, h2⟩
  have hS : SysAt (w3.alloc (.cells #[.slice (some ⟨a, 0, none⟩) n n, .slice (some ⟨b, 0, none⟩) n n, .bool true] 60)) w3.heap.size a b n n n (first n) :=
    ⟨heap_alloc_new w3 _, Kd.R_lower (Kd.R_below hra ((Below.refl _ _).alloc (Nat.le_refl _) _)) (Nat.zero_le _), Kd.R_lower (Kd.R_below hrb ((Below.refl _ _).alloc (Nat.le_refl _) _)) (Nat.zero_le _)⟩
  have HS := Lib.hid hS
  have hge : ∀ k, own3 w3.heap.size a b k → w.heap.size + 2 ≤ k := by have h3 := hb3.size; rintro k (rfl | rfl | rfl) <;> omega
  have HGE := Lib.hid hge
  -- what lies in every later world
  have key : ∀ wr, Chg (own3 w3.heap.size a b) (w3.alloc (.cells #[.slice (some ⟨a, 0, none⟩) n n, .slice (some ⟨b, 0, none⟩) n n, .bool true] 60)) wr →
      Below w.heap.size w wr ∧ wr.heap[w.heap.size]? = some (.cells #[.slice A0 p.rd.length c0, .slice A1 p.wr.length c1, .slice A2 p.ev.length c2, .slice A3 p.sr.length c3, .slice A4 p.sw.length c4] 50 (0, 0)) ∧ wr.heap[w.heap.size + 1]? = some (.cells #[.slice none 0 0, .slice none 0 0, .bool false] 60 (0, 0)) := by
    intro wr hc
    have hbl : Below (w.heap.size + 2) _ wr := (hB4 _).trans (hc.below (by have h3 := hb3.size; simp; omega) hge)
    exact ⟨(below_al2 w _ _).trans (hbl.mono (by omega)), (hbl.block _ (by omega)).trans hx0, (hbl.block _ (by omega)).trans hx1⟩
  have KEY := Lib.hid key
  have hln := Lib.hid (And.intro h0 hn)
  clear hra hrb hga hgb hS hge key hB4 hx0 hx1 hBw hB1 HW2 hb2 hb3 hsz
  go_wp2_with fail
  go_loopw [7, 8, 30] (fun r7 r8 i wr => ∃ (k : Nat) (x : Sys), k ≤ ops.length ∧ i = .int .i64 k ∧ r7 = .int .i64 0 ∧ r8 = .bool false ∧ Hid (x.Ok n) ∧ Hid (runS p x k (ops.drop k) = runS p (first n) 0 ops) ∧ Hid (SysAt wr w3.heap.size a b n n n x) ∧ Hid (Chg (own3 w3.heap.size a b) (w3.alloc (.cells #[.slice (some ⟨a, 0, none⟩) n n, .slice (some ⟨b, 0, none⟩) n n, .bool true] 60)) wr)) (fun _ _ i _ => ops.length - (intOf i).toNat)
  case atStart => exact ⟨0, first n, Nat.zero_le _, rfl, rfl, rfl, Lib.hid (Sys.Ok.first n), Lib.hid rfl, HS, Lib.hid (Chg.refl _ _)⟩
  case round =>
    obtain ⟨k, x, hk, rfl, rfl, rfl, HX, HR, HSr, HC⟩ := hrel
    obtain ⟨hbw, hx0, hx1⟩ := KEY.out wr HC.out
    by_cases hlt : k < ops.length
    · obtain ⟨ad, rfl, o0, o1⟩ := C_opN HOPS.out k hlt rfl
      replace o0 := cell_old hbw o0
      replace o1 := cell_old hbw o1
      have hd := drop_at ops k hlt
      have hoo := okOps_at HOK.out k hlt
      obtain ⟨o, ho⟩ : ∃ o, ops[k] = o := ⟨_, rfl⟩
      rw [ho] at o0 o1 hd hoo
      have HR2 : Hid ((if (stepS p x o).2.1 = true then ((stepS p x o).1, (k : Int)) else runS p (stepS p x o).1 (k + 1) (ops.drop (k + 1))) = runS p (first n) 0 ops) := Lib.hid (by have := HR.out; rw [hd, runS] at this; exact this)
      have HOO := Lib.hid hoo
      have bx : ∀ oo, _ ∧ _ := fun oo => box5 (b := w.heap.size) ((Below.heap_alloc wr oo w.heap.size (heap_lt hx0)).trans hx0)
      have b0 := fun oo => (bx oo).1
      have b1 := fun oo => (bx oo).2.1
      have b2 := fun oo => (bx oo).2.2.1
      have b3 := fun oo => (bx oo).2.2.2.1
      have b4 := fun oo => (bx oo).2.2.2.2
      have HBW := Lib.hid hbw
      have HX1 := Lib.hid hx1
      clear ho hd hoo bx hbw hx0 hx1 HR
      go_wp2_with fail
      refine (step w3.heap.size a b n n n x p _ o _ (HSr.out.below ((Below.refl _ _).alloc (Nat.le_refl _) _)) hln.out.1 hln.out.2 (fun w1 hc => HV.out.below (((HBW.out.alloc HBW.out.size _).trans (hc.below (B := w.heap.size) (by have := HBW.out.size; simp; omega) (fun q hq => by have := HGE.out q hq; omega))))) HOO.out.2.2.1 HOO.out.2.2.2.1 (fun j _ => HX.out.bd j) (valid_tabs HP.out) ⟨HOO.out.1, HOO.out.2.1⟩).mono ?_
      rintro e w5 ⟨rfl, hS5, hC5⟩
      have HX5 := Lib.hid (HX.out.step HP.out o HOO.out.2.2.1 HOO.out.2.2.2.1)
      have HS5 := Lib.hid hS5
      have HC5 := Lib.hid ((HC.out.alloc _).trans hC5)
      obtain ⟨y, hy⟩ : ∃ y, stepS p x o = y := ⟨_, rfl⟩
      obtain ⟨y, fl, sn, bk⟩ := y
      rw [hy] at HR2 HX5 HS5
      rw [hy]
      simp only at HR2 HX5 HS5
      clear hy hS5 hC5
      cases fl with
      | true =>
        have HF : Hid ((y, (k : Int)) = runS p (first n) 0 ops) := Lib.hid (by have := HR2.out; rwa [if_pos rfl] at this)
        obtain ⟨s0, s1, s2, _⟩ := HS5.out.cells
        have hr := (KEY.out w5 HC5.out).2.2
        have q0 := cell_blk hr 0 _ rfl
        have q1 := cell_blk hr 1 _ rfl
        have q2 := cell_blk hr 2 _ rfl
        have q0f := Lib.frozen_of_heap hr 0
        have q1f := Lib.frozen_of_heap hr 1
        have q2f := Lib.frozen_of_heap hr 2
        clear hr
        go_wp2_with fail
        have hne : ∀ q, own3 w3.heap.size a b q → q ≠ w.heap.size + 1 := fun q hq e => by have := HGE.out q hq; omega
        have hSf := HS5.out.move (w1 := ((w5.setCell ⟨w.heap.size + 1, 0, none⟩ (.slice (some ⟨a, 0, none⟩) n n)).setCell ⟨w.heap.size + 1, 1, none⟩ (.slice (some ⟨b, 0, none⟩) n n)).setCell ⟨w.heap.size + 1, 2, none⟩ (.bool y.m)) (fun q hq => by rw [Below.heap_setCell _ _ _ _ (hne q hq), Below.heap_setCell _ _ _ _ (hne q hq), Below.heap_setCell _ _ _ _ (hne q hq)])
        refine bodyPost_ret (v := .tuple #[.agg #[.slice (some ⟨a, 0, none⟩) n n, .slice (some ⟨b, 0, none⟩) n n, .bool y.m], .int .i64 k, .bool true]) (by simp [results, Try.results40, go_sem, q0, q1, q2]) rfl ⟨_, by rw [← HF.out], ?_, ?_⟩
        · rw [← HF.out]; exact hSf.val
        · exact ((((KEY.out w5 HC5.out).1).setCell (p := ⟨w.heap.size + 1, 0, none⟩) (by simp) _).setCell (p := ⟨w.heap.size + 1, 1, none⟩) (by simp) _).setCell (p := ⟨w.heap.size + 1, 2, none⟩) (by simp) _
      | false =>
        have HF : Hid (runS p y (k + 1) (ops.drop (k + 1)) = runS p (first n) 0 ops) := Lib.hid (by have := HR2.out; rwa [if_neg (by simp)] at this)
        go_wp2_with fail
        go_roundw
        case rel => exact ⟨k + 1, y, by omega, by go_num, rfl, rfl, HX5, Lib.hid (by have := HF.out; simpa using this), HS5, HC5⟩
        case measure => simp [intOf]; omega
    · have he : ops.drop k = [] := List.drop_of_length_le (by omega)
      have HF : Hid ((x, (-1 : Int)) = runS p (first n) 0 ops) := Lib.hid (by have := HR.out; rw [he] at this; exact this)
      obtain ⟨s0, s1, s2, _⟩ := HSr.out.cells
      have q0 := cell_blk hx1 0 _ rfl
      have q1 := cell_blk hx1 1 _ rfl
      have q2 := cell_blk hx1 2 _ rfl
      have q0f := Lib.frozen_of_heap hx1 0
      have q1f := Lib.frozen_of_heap hx1 1
      have q2f := Lib.frozen_of_heap hx1 2
      clear hx0 hx1 he HR hbw
      go_wp2_with fail
      have hne : ∀ q, own3 w3.heap.size a b q → q ≠ w.heap.size + 1 := fun q hq e => by have := HGE.out q hq; omega
      have hSf := HSr.out.move (w1 := ((wr.setCell ⟨w.heap.size + 1, 0, none⟩ (.slice (some ⟨a, 0, none⟩) n n)).setCell ⟨w.heap.size + 1, 1, none⟩ (.slice (some ⟨b, 0, none⟩) n n)).setCell ⟨w.heap.size + 1, 2, none⟩ (.bool x.m)) (fun q hq => by rw [Below.heap_setCell _ _ _ _ (hne q hq), Below.heap_setCell _ _ _ _ (hne q hq), Below.heap_setCell _ _ _ _ (hne q hq)])
      refine bodyPost_ret (v := .tuple #[.agg #[.slice (some ⟨a, 0, none⟩) n n, .slice (some ⟨b, 0, none⟩) n n, .bool x.m], .int .i64 (-1), .bool true]) (by simp [results, Try.results40, go_sem, q0, q1, q2]) rfl ⟨_, by rw [← HF.out], ?_, ?_⟩
      · rw [← HF.out]; exact hSf.val
      · exact ((((KEY.out wr HC.out).1).setCell (p := ⟨w.heap.size + 1, 0, none⟩) (by simp) _).setCell (p := ⟨w.heap.size + 1, 1, none⟩) (by simp) _).setCell (p := ⟨w.heap.size + 1, 2, none⟩) (by simp) _
end Go.Proofs.Ytfeabjiccnnpcaa.Ca
