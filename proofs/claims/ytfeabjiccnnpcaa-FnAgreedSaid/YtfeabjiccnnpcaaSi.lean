import Derived.Test.YtfeabjiccnnpcaaSh
set_option linter.unusedVariables false
set_option linter.unusedSimpArgs false
namespace Go.Proofs.Ytfeabjiccnnpcaa.Ca
open Go.RowKit Go.Proofs.YtfeabjiccnnpcaaW.PrintWords Go.Proofs.YtfeabjiccnnpcaaW.PrintLast Go.Proofs.Ytfeabjiccnnpcaa.Ba Go.Proofs.Ytfeabjiccnnpcaa.Inv

theorem value_wp {P : Program} {o : Oper} {a : Act} {w w1 : World} {K : Act → World → Prop} {Q : Exit → Act → World → Prop} {v : Value} (hr : (execOp a.eval o).run P w = .ok (.value v) w1) (h : K (a.put o.dst v) w1) : Oper.wp P o a w K Q := by
  unfold Oper.wp; rw [hr]; exact h
theorem run_mv {ρ : Operand → Value} (o : Oper) {x : Operand} {v : Value} (w : World) (h : ρ x = v) (ho : o.op = .move x := by rfl) : (execOp ρ o).run Try.prog w = .ok (.value v) w := by
  rw [BigFrame.run_move x ho, h]
theorem run_nc {ρ : Operand → Value} (o : Oper) {x : Operand} (ad : Addr) (w : World) (h : ρ x = .pointer (some ad)) (ho : o.op = .nilCheck x := by rfl) : (execOp ρ o).run Try.prog w = .ok (.value (.pointer (some ad))) w := by
  simp [execOp, ho, h, go_sem]
theorem run_fa {ρ : Operand → Value} (o : Oper) {x : Operand} (g : Nat) (j : Nat) (w : World) (h : ρ x = .pointer (some ⟨g, 0, none⟩)) (ho : o.op = .fieldAddr 50 x j := by rfl) (hj : j < 5 := by omega) : (execOp ρ o).run Try.prog w = .ok (.value (.pointer (some ⟨g, j, none⟩))) w := by
  match j, hj with
  | 0, _ => simp [execOp, ho, h, go_sem]
  | 1, _ => simp [execOp, ho, h, go_sem]
  | 2, _ => simp [execOp, ho, h, go_sem]
  | 3, _ => simp [execOp, ho, h, go_sem]
  | 4, _ => simp [execOp, ho, h, go_sem]
theorem run_ld {ρ : Operand → Value} (o : Oper) {x : Operand} (ad : Addr) (A : Option Addr) (n : Nat) (c : Nat) (w : World) (h : ρ x = .pointer (some ad)) (hc : w.cell? ad = some (.slice A n c)) (ho : o.op = .load 48 x := by rfl) : (execOp ρ o).run Try.prog w = .ok (.value (.slice A n c)) w := by
  simp [execOp, ho, h, go_sem, hc]
theorem run_bl {ρ : Operand → Value} (o : Oper) (w : World) {X C : Nat → Nat} (f0 : ρ (.tmp 8) = .slice (some ⟨X 0, 0, none⟩) 4 (C 0)) (f1 : ρ (.tmp 14) = .slice (some ⟨X 1, 0, none⟩) 4 (C 1)) (f2 : ρ (.tmp 20) = .slice (some ⟨X 2, 0, none⟩) 4 (C 2)) (f3 : ρ (.tmp 26) = .slice (some ⟨X 3, 0, none⟩) 4 (C 3)) (f4 : ρ (.tmp 32) = .slice (some ⟨X 4, 0, none⟩) 4 (C 4)) (ho : o.op = .build 50 #[(0, .tmp 8), (1, .tmp 14), (2, .tmp 20), (3, .tmp 26), (4, .tmp 32)] := by rfl) :
    (execOp ρ o).run Try.prog w = .ok (.value (.agg #[.slice (some ⟨X 0, 0, none⟩) 4 (C 0), .slice (some ⟨X 1, 0, none⟩) 4 (C 1), .slice (some ⟨X 2, 0, none⟩) 4 (C 2), .slice (some ⟨X 3, 0, none⟩) 4 (C 3), .slice (some ⟨X 4, 0, none⟩) 4 (C 4)])) w := by
  have h50 := Try.underlying50
  simp [execOp, ho, f0, f1, f2, f3, f4, go_sem, h50]
theorem z32 (k : Nat) : (Array.replicate 32 false).getD k false = false := by simp [Array.getD]
theorem run_st {ρ : Operand → Value} (o : Oper) (w : World) {ws : Nat} {X C : Nat → Nat} {x0 x1 x2 x3 x4 : Value} (f : ρ (.tmp 33) = .agg #[.slice (some ⟨X 0, 0, none⟩) 4 (C 0), .slice (some ⟨X 1, 0, none⟩) 4 (C 1), .slice (some ⟨X 2, 0, none⟩) 4 (C 2), .slice (some ⟨X 3, 0, none⟩) 4 (C 3), .slice (some ⟨X 4, 0, none⟩) 4 (C 4)]) (f2 : ρ (.tmp 2) = .pointer (some ⟨ws, 0, none⟩)) (hb : w.heap[ws]? = some (.cells #[x0, x1, x2, x3, x4] 50 (0, 0))) (ho : o.op = .store 50 (.tmp 2) (.tmp 33) := by rfl) :
    (execOp ρ o).run Try.prog w = .ok .skip (((((w.setCell ⟨ws, 0, none⟩ (.slice (some ⟨X 0, 0, none⟩) 4 (C 0))).setCell ⟨ws, 1, none⟩ (.slice (some ⟨X 1, 0, none⟩) 4 (C 1))).setCell ⟨ws, 2, none⟩ (.slice (some ⟨X 2, 0, none⟩) 4 (C 2))).setCell ⟨ws, 3, none⟩ (.slice (some ⟨X 3, 0, none⟩) 4 (C 3))).setCell ⟨ws, 4, none⟩ (.slice (some ⟨X 4, 0, none⟩) 4 (C 4))) := by
  have h50 := Try.underlying50
  have q0 := cell_blk hb 0 _ rfl
  have q1 := cell_blk hb 1 _ rfl
  have q2 := cell_blk hb 2 _ rfl
  have q3 := cell_blk hb 3 _ rfl
  have q4 := cell_blk hb 4 _ rfl
  have q0f := Lib.frozen_of_heap hb 0
  have q1f := Lib.frozen_of_heap hb 1
  have q2f := Lib.frozen_of_heap hb 2
  have q3f := Lib.frozen_of_heap hb 3
  have q4f := Lib.frozen_of_heap hb 4
  simp [execOp, ho, f, f2, go_sem, h50, q0, q1, q2, q3, q4, q0f, q1f, q2f, q3f, q4f]
theorem cons_of {n : Nat} {t : List Value} (h : t.length = n + 1) : ∃ a s, t = a :: s ∧ s.length = n := by
  cases t with
  | nil => cases h
  | cons a s => exact ⟨a, s, rfl, by simpa using h⟩
theorem own_app {h ws : Nat} {p : Proto} {AA : Nat → Option Addr} {cc : Nat → Nat} {w0 : World} {E X C : Nat → Nat} {l : Array Bool} {a : Act} {w : World} {Q : Exit → Act → World → Prop} (hI : OInv h ws p AA cc w0 E X C l a w) (hl : l.size = 32)
    (hp : ∀ k, k < 5 → w0.cell? ⟨h, k, none⟩ = some (.slice (AA k) 4 (cc k)) ∧ 4 ≤ cc k ∧ Kd.C kRule w0 (AA k) 4 (p.tab k)) (hb0 : ws = w0.heap.size) (i : Nat) (hi : i < 5) (hn : l.getD (6 * i + 5) true = false) (h0 : l.getD (6 * i) false = true)
    (o : Oper) (s x : Operand) (hg : o.guard = none) (ho : o.op = .call { callee := .builtin .append, args := #[s, x], argTypes := #[48, 48] }) (f1 : a.eval s = .slice (some ⟨E i, 0, none⟩) 0 0) (f2 : a.eval x = .slice (AA i) 4 (cc i))
    (K : Act → World → Prop) (hK : ∀ a' w', (∃ E X C, OInv h ws p AA cc w0 E X C (l.setIfInBounds (6 * i + 5) true) a' w') → K a' w') (hdst : o.dst = some (6 * i + 8)) (ht : o.type = 48) : Oper.wp Try.prog o a w K Q := by
  have hw : Region.wanted o (yielded #[] a.tmps) = true := by simp [Region.wanted, hg]
  have hn5 : l.getD (6 * i + 5) false = false := by
    have hb : 6 * i + 5 < l.size := by omega
    simpa [Array.getD, hb] using hn
  have hC := Kd.C_below (hp i hi).2.2 (by rw [← hb0]; exact hI.below)
  have h4 : (p.tab i).length = 4 := hC.1
  have hrm := hI.room
  have := Kd.R_append_rows_step (P := Try.prog) (ops := #[]) (o := o) (a := a) (Q := Q) (Kc := K) kRule (Rr := kRule.K w) (w0 := w) (ws + 1) hw s x 48 145 (.agg #[.int .i64 0, .int .i64 0, .bool false]) 24 ho Try.underlying48 info145 rfl (by decide) (by omega) _ [] (p.tab i) (AA i) 4 (cc i) (fun k => k = E i ∨ w.heap.size ≤ k) (fun _ => False) f1 f2 (Kd.R_mono (hI.empty i hi h0 hn5) (fun k hk => .inl hk)) hC (fun x cs hk => by rw [kRule_open hk]; exact kRule_mkM _ _ _ x) (fun _ h => h.elim) (fun k hk => .inr hk) (Below.refl _ _) hrm (by simp) ?_
  · rw [if_pos hw] at this; exact this
  · intro v1 w1 hR hB hG hat
    rw [List.nil_append] at hR
    obtain ⟨x1, c1, rfl, hb1, hl1, _⟩ := Kd.R_form hR (by omega)
    rw [h4] at hR hat ⊢
    rw [hdst]
    refine hK _ _ ⟨_, _, _, hI.app hl i hi hn h0 x1 c1 hR hB hG ?_ hl1⟩
    rcases hat with e | ⟨b, e, hb⟩
    · injection e with e; exact .inl e
    · injection e with e; subst e; exact .inr hb
set_option maxHeartbeats 4000000 in
set_option maxRecDepth 100000 in
theorem l10Own (h : Nat) (p : Proto) (w : World) (AA : Nat → Option Addr) (cc : Nat → Nat) (hp : ∀ k, k < 5 → w.cell? ⟨h, k, none⟩ = some (.slice (AA k) 4 (cc k)) ∧ 4 ≤ cc k ∧ Kd.C kRule w (AA k) 4 (p.tab k)) :
    Calls Try.prog 167 #[.pointer (some ⟨h, 0, none⟩)] w fun e w' => ∃ X C : Nat → Nat, e = .returned (.agg #[.slice (some ⟨X 0, 0, none⟩) 4 (C 0), .slice (some ⟨X 1, 0, none⟩) 4 (C 1), .slice (some ⟨X 2, 0, none⟩) 4 (C 2), .slice (some ⟨X 3, 0, none⟩) 4 (C 3), .slice (some ⟨X 4, 0, none⟩) 4 (C 4)]) ∧ Below w.heap.size w w' ∧ (∀ i, i < 5 → kRule.R 145 w' w.heap.size (fun k => k = X i) (.slice (some ⟨X i, 0, none⟩) 4 (C i)) (p.tab i)) ∧ (∀ i j, i < 5 → j < 5 → i ≠ j → X i ≠ X j) := by
  have HP := Lib.hid hp
  clear hp
  go_enter Try.func167, Try.ntmps167
  go_wp2
  refine wp_region_any (by kernel_rfl) ?_
  refine wpAny_inv (fun l a W => ∃ E X C, OInv h w.heap.size p AA cc w E X C l a W) ?hlt ?step ?fin _ _ _ _ (by rfl) (by decide) ?start
  case hlt => exact ltB_out (by kernel_rfl)
  case start =>
    refine ⟨fun _ => 0, fun _ => 0, fun _ => 0, rfl, rfl, rfl, rfl, ?_, ((Below.refl _ _).alloc (Nat.le_refl _) _).drew, by simp, fun _ => heap_alloc_new w _, ?_, ?_, ?_, ?_, ?_, ?_, ?_, ?_⟩
    · intro m hm h1
      exfalso; revert h1; simp [Array.getD]
    · intro h1; exact absurd h1 (by decide)
    · intro i hi h1; exact absurd ((z32 _).symm.trans h1) (by decide)
    · intro i hi h1; exact absurd ((z32 _).symm.trans h1) (by decide)
    · intro i hi h1; exact absurd ((z32 _).symm.trans h1) (by decide)
    · intro h1; exact absurd ((z32 _).symm.trans h1) (by decide)
    · intro h1; exact absurd ((z32 _).symm.trans h1) (by decide)
    · intro i hi h1; exact absurd ((z32 _).symm.trans h1) (by decide)
    · intro i j hi hj hij h1; exact absurd ((z32 _).symm.trans h1) (by decide)
  case fin =>
    intro l a W hI hall
    obtain ⟨E, X, C, hI⟩ := hI
    have hsz := hI.size
    have hdf := hI.dfr
    have ht0 := hI.t0
    have ht2 := hI.t2
    have hm := hI.made (hall 31 (by decide))
    have hfin : Hid (Below w.heap.size w W ∧ (∀ i, i < 5 → kRule.R 145 W w.heap.size (fun k => k = X i) (.slice (some ⟨X i, 0, none⟩) 4 (C i)) (p.tab i)) ∧ (∀ i j, i < 5 → j < 5 → i ≠ j → X i ≠ X j)) := Lib.hid ⟨hI.below, fun i hi => Kd.R_lower (hI.full i hi (hall _ (by show 6 * i + 5 < 32; omega))) (by omega), fun i j hi hj hij => by
      have := hI.apart i j hi hj hij (hall _ (by show 6 * i < 32; omega)) (hall _ (by show 6 * j < 32; omega))
      rwa [oBlk, oBlk, hall _ (by show 6 * i + 5 < 32; omega), hall _ (by show 6 * j + 5 < 32; omega)] at this⟩
    clear hI hall
    obtain ⟨⟨ts⟩, df⟩ := a
    have hts : ts.length = 34 := by simpa using hsz
    obtain ⟨a0, ts, rfl, ht_0⟩ := cons_of hts
    obtain ⟨a1, ts, rfl, ht_1⟩ := cons_of ht_0
    obtain ⟨a2, ts, rfl, ht_2⟩ := cons_of ht_1
    obtain ⟨a3, ts, rfl, ht_3⟩ := cons_of ht_2
    obtain ⟨a4, ts, rfl, ht_4⟩ := cons_of ht_3
    obtain ⟨a5, ts, rfl, ht_5⟩ := cons_of ht_4
    obtain ⟨a6, ts, rfl, ht_6⟩ := cons_of ht_5
    obtain ⟨a7, ts, rfl, ht_7⟩ := cons_of ht_6
    obtain ⟨a8, ts, rfl, ht_8⟩ := cons_of ht_7
    obtain ⟨a9, ts, rfl, ht_9⟩ := cons_of ht_8
    obtain ⟨a10, ts, rfl, ht_10⟩ := cons_of ht_9
    obtain ⟨a11, ts, rfl, ht_11⟩ := cons_of ht_10
    obtain ⟨a12, ts, rfl, ht_12⟩ := cons_of ht_11
    obtain ⟨a13, ts, rfl, ht_13⟩ := cons_of ht_12
    obtain ⟨a14, ts, rfl, ht_14⟩ := cons_of ht_13
    obtain ⟨a15, ts, rfl, ht_15⟩ := cons_of ht_14
    obtain ⟨a16, ts, rfl, ht_16⟩ := cons_of ht_15
    obtain ⟨a17, ts, rfl, ht_17⟩ := cons_of ht_16
    obtain ⟨a18, ts, rfl, ht_18⟩ := cons_of ht_17
    obtain ⟨a19, ts, rfl, ht_19⟩ := cons_of ht_18
    obtain ⟨a20, ts, rfl, ht_20⟩ := cons_of ht_19
    obtain ⟨a21, ts, rfl, ht_21⟩ := cons_of ht_20
    obtain ⟨a22, ts, rfl, ht_22⟩ := cons_of ht_21
    obtain ⟨a23, ts, rfl, ht_23⟩ := cons_of ht_22
    obtain ⟨a24, ts, rfl, ht_24⟩ := cons_of ht_23
    obtain ⟨a25, ts, rfl, ht_25⟩ := cons_of ht_24
    obtain ⟨a26, ts, rfl, ht_26⟩ := cons_of ht_25
    obtain ⟨a27, ts, rfl, ht_27⟩ := cons_of ht_26
    obtain ⟨a28, ts, rfl, ht_28⟩ := cons_of ht_27
    obtain ⟨a29, ts, rfl, ht_29⟩ := cons_of ht_28
    obtain ⟨a30, ts, rfl, ht_30⟩ := cons_of ht_29
    obtain ⟨a31, ts, rfl, ht_31⟩ := cons_of ht_30
    obtain ⟨a32, ts, rfl, ht_32⟩ := cons_of ht_31
    obtain ⟨a33, ts, rfl, ht_33⟩ := cons_of ht_32
    obtain rfl := List.eq_nil_of_length_eq_zero ht_33
    clear hts ht_0 ht_1 ht_2 ht_3 ht_4 ht_5 ht_6 ht_7 ht_8 ht_9 ht_10 ht_11 ht_12 ht_13 ht_14 ht_15 ht_16 ht_17 ht_18 ht_19 ht_20 ht_21 ht_22 ht_23 ht_24 ht_25 ht_26 ht_27 ht_28 ht_29 ht_30 ht_31 ht_32 ht_33
    simp only at hdf
    subst hdf
    replace ht0 : a0 = _ := ht0
    replace ht2 : a2 = _ := ht2
    subst ht0 ht2
    have q0 := cell_blk hm 0 _ rfl
    have q1 := cell_blk hm 1 _ rfl
    have q2 := cell_blk hm 2 _ rfl
    have q3 := cell_blk hm 3 _ rfl
    have q4 := cell_blk hm 4 _ rfl
    clear hm hsz
    go_wp2
    exact bodyPost_ret (v := .agg #[.slice (some ⟨X 0, 0, none⟩) 4 (C 0), .slice (some ⟨X 1, 0, none⟩) 4 (C 1), .slice (some ⟨X 2, 0, none⟩) 4 (C 2), .slice (some ⟨X 3, 0, none⟩) 4 (C 3), .slice (some ⟨X 4, 0, none⟩) 4 (C 4)]) (by simp [results, Try.results167, go_sem, q0, q1, q2, q3, q4]) rfl ⟨X, C, rfl, hfin.out⟩
  case step =>
    intro l a W i o hI hl ho hn hd K hK
    obtain ⟨E, X, C, hI⟩ := hI
    match i, ho, hn, hd, hK with
    | 0, ho, hn, hd, hK =>
      have ho2 := Option.some.inj (show some _ = some o from ho)
      subst ho2
      rw [if_pos (by rfl)]
      refine value_wp (v := .slice (some ⟨W.heap.size, 0, none⟩) 0 0) (w1 := W.alloc (.cells #[] 145)) ?_ (hK _ _ ⟨_, X, C, hI.lit hl 0 (by omega) hn⟩)
      simp [execOp, go_sem]
    | 1, ho, hn, hd, hK =>
      have ho2 := Option.some.inj (show some _ = some o from ho)
      subst ho2
      rw [if_pos (by rfl)]
      refine value_wp (v := oVal h AA cc E X C 1) (w1 := W) ?_ (hK _ _ ⟨E, X, C, hI.pure hl 1 (by omega) (by omega) (by omega)⟩)
      have f : a.eval (.tmp 0) = .pointer (some ⟨h, 0, none⟩) := hI.t0
      exact run_mv _ _ f
    | 2, ho, hn, hd, hK =>
      have ho2 := Option.some.inj (show some _ = some o from ho)
      subst ho2
      rw [if_pos (by rfl)]
      refine value_wp (v := oVal h AA cc E X C 2) (w1 := W) ?_ (hK _ _ ⟨E, X, C, hI.pure hl 2 (by omega) (by omega) (by omega)⟩)
      have f : a.eval (.tmp 4) = .pointer (some ⟨h, 0, none⟩) := hI.slot 1 (by omega) (hd ⟨1, .data⟩ (by simp) rfl)
      exact run_nc _ _ _ f
    | 3, ho, hn, hd, hK =>
      have ho2 := Option.some.inj (show some _ = some o from ho)
      subst ho2
      rw [if_pos (by rfl)]
      refine value_wp (v := oVal h AA cc E X C 3) (w1 := W) ?_ (hK _ _ ⟨E, X, C, hI.pure hl 3 (by omega) (by omega) (by omega)⟩)
      have f : a.eval (.tmp 5) = .pointer (some ⟨h, 0, none⟩) := hI.slot 2 (by omega) (hd ⟨2, .data⟩ (by simp) rfl)
      exact run_fa _ _ _ _ f
    | 4, ho, hn, hd, hK =>
      have ho2 := Option.some.inj (show some _ = some o from ho)
      subst ho2
      rw [if_pos (by rfl)]
      refine value_wp (v := oVal h AA cc E X C 4) (w1 := W) ?_ (hK _ _ ⟨E, X, C, hI.pure hl 4 (by omega) (by omega) (by omega)⟩)
      have f : a.eval (.tmp 6) = .pointer (some ⟨h, 0, none⟩) := hI.slot 3 (by omega) (hd ⟨3, .data⟩ (by simp) rfl)
      have c := cell_old hI.below (HP.out 0 (by omega)).1
      exact run_ld _ _ _ _ _ _ f c
    | 5, ho, hn, hd, hK =>
      have ho2 := Option.some.inj (show some _ = some o from ho)
      subst ho2
      rw [if_pos (by rfl)]
      have f0 : l.getD 0 false = true := hd ⟨0, .data⟩ (by simp) rfl
      have f1 : a.eval (.tmp 3) = .slice (some ⟨E 0, 0, none⟩) 0 0 := hI.slot 0 (by omega) f0
      have f2 : a.eval (.tmp 7) = .slice (AA 0) 4 (cc 0) := hI.slot 4 (by omega) (hd ⟨4, .data⟩ (by simp) rfl)
      exact own_app hI hl HP.out rfl 0 (by omega) hn f0 _ (.tmp 3) (.tmp 7) rfl rfl f1 f2 K hK rfl rfl
    | 6, ho, hn, hd, hK =>
      have ho2 := Option.some.inj (show some _ = some o from ho)
      subst ho2
      rw [if_pos (by rfl)]
      refine value_wp (v := .slice (some ⟨W.heap.size, 0, none⟩) 0 0) (w1 := W.alloc (.cells #[] 145)) ?_ (hK _ _ ⟨_, X, C, hI.lit hl 1 (by omega) hn⟩)
      simp [execOp, go_sem]
    | 7, ho, hn, hd, hK =>
      have ho2 := Option.some.inj (show some _ = some o from ho)
      subst ho2
      rw [if_pos (by rfl)]
      refine value_wp (v := oVal h AA cc E X C 7) (w1 := W) ?_ (hK _ _ ⟨E, X, C, hI.pure hl 7 (by omega) (by omega) (by omega)⟩)
      have f : a.eval (.tmp 0) = .pointer (some ⟨h, 0, none⟩) := hI.t0
      exact run_mv _ _ f
    | 8, ho, hn, hd, hK =>
      have ho2 := Option.some.inj (show some _ = some o from ho)
      subst ho2
      rw [if_pos (by rfl)]
      refine value_wp (v := oVal h AA cc E X C 8) (w1 := W) ?_ (hK _ _ ⟨E, X, C, hI.pure hl 8 (by omega) (by omega) (by omega)⟩)
      have f : a.eval (.tmp 10) = .pointer (some ⟨h, 0, none⟩) := hI.slot 7 (by omega) (hd ⟨7, .data⟩ (by simp) rfl)
      exact run_nc _ _ _ f
    | 9, ho, hn, hd, hK =>
      have ho2 := Option.some.inj (show some _ = some o from ho)
      subst ho2
      rw [if_pos (by rfl)]
      refine value_wp (v := oVal h AA cc E X C 9) (w1 := W) ?_ (hK _ _ ⟨E, X, C, hI.pure hl 9 (by omega) (by omega) (by omega)⟩)
      have f : a.eval (.tmp 11) = .pointer (some ⟨h, 0, none⟩) := hI.slot 8 (by omega) (hd ⟨8, .data⟩ (by simp) rfl)
      exact run_fa _ _ _ _ f
    | 10, ho, hn, hd, hK =>
      have ho2 := Option.some.inj (show some _ = some o from ho)
      subst ho2
      rw [if_pos (by rfl)]
      refine value_wp (v := oVal h AA cc E X C 10) (w1 := W) ?_ (hK _ _ ⟨E, X, C, hI.pure hl 10 (by omega) (by omega) (by omega)⟩)
      have f : a.eval (.tmp 12) = .pointer (some ⟨h, 1, none⟩) := hI.slot 9 (by omega) (hd ⟨9, .data⟩ (by simp) rfl)
      have c := cell_old hI.below (HP.out 1 (by omega)).1
      exact run_ld _ _ _ _ _ _ f c
    | 11, ho, hn, hd, hK =>
      have ho2 := Option.some.inj (show some _ = some o from ho)
      subst ho2
      rw [if_pos (by rfl)]
      have f0 : l.getD 6 false = true := hd ⟨6, .data⟩ (by simp) rfl
      have f1 : a.eval (.tmp 9) = .slice (some ⟨E 1, 0, none⟩) 0 0 := hI.slot 6 (by omega) f0
      have f2 : a.eval (.tmp 13) = .slice (AA 1) 4 (cc 1) := hI.slot 10 (by omega) (hd ⟨10, .data⟩ (by simp) rfl)
      exact own_app hI hl HP.out rfl 1 (by omega) hn f0 _ (.tmp 9) (.tmp 13) rfl rfl f1 f2 K hK rfl rfl
    | 12, ho, hn, hd, hK =>
      have ho2 := Option.some.inj (show some _ = some o from ho)
      subst ho2
      rw [if_pos (by rfl)]
      refine value_wp (v := .slice (some ⟨W.heap.size, 0, none⟩) 0 0) (w1 := W.alloc (.cells #[] 145)) ?_ (hK _ _ ⟨_, X, C, hI.lit hl 2 (by omega) hn⟩)
      simp [execOp, go_sem]
    | 13, ho, hn, hd, hK =>
      have ho2 := Option.some.inj (show some _ = some o from ho)
      subst ho2
      rw [if_pos (by rfl)]
      refine value_wp (v := oVal h AA cc E X C 13) (w1 := W) ?_ (hK _ _ ⟨E, X, C, hI.pure hl 13 (by omega) (by omega) (by omega)⟩)
      have f : a.eval (.tmp 0) = .pointer (some ⟨h, 0, none⟩) := hI.t0
      exact run_mv _ _ f
    | 14, ho, hn, hd, hK =>
      have ho2 := Option.some.inj (show some _ = some o from ho)
      subst ho2
      rw [if_pos (by rfl)]
      refine value_wp (v := oVal h AA cc E X C 14) (w1 := W) ?_ (hK _ _ ⟨E, X, C, hI.pure hl 14 (by omega) (by omega) (by omega)⟩)
      have f : a.eval (.tmp 16) = .pointer (some ⟨h, 0, none⟩) := hI.slot 13 (by omega) (hd ⟨13, .data⟩ (by simp) rfl)
      exact run_nc _ _ _ f
    | 15, ho, hn, hd, hK =>
      have ho2 := Option.some.inj (show some _ = some o from ho)
      subst ho2
      rw [if_pos (by rfl)]
      refine value_wp (v := oVal h AA cc E X C 15) (w1 := W) ?_ (hK _ _ ⟨E, X, C, hI.pure hl 15 (by omega) (by omega) (by omega)⟩)
      have f : a.eval (.tmp 17) = .pointer (some ⟨h, 0, none⟩) := hI.slot 14 (by omega) (hd ⟨14, .data⟩ (by simp) rfl)
      exact run_fa _ _ _ _ f
    | 16, ho, hn, hd, hK =>
      have ho2 := Option.some.inj (show some _ = some o from ho)
      subst ho2
      rw [if_pos (by rfl)]
      refine value_wp (v := oVal h AA cc E X C 16) (w1 := W) ?_ (hK _ _ ⟨E, X, C, hI.pure hl 16 (by omega) (by omega) (by omega)⟩)
      have f : a.eval (.tmp 18) = .pointer (some ⟨h, 2, none⟩) := hI.slot 15 (by omega) (hd ⟨15, .data⟩ (by simp) rfl)
      have c := cell_old hI.below (HP.out 2 (by omega)).1
      exact run_ld _ _ _ _ _ _ f c
    | 17, ho, hn, hd, hK =>
      have ho2 := Option.some.inj (show some _ = some o from ho)
      subst ho2
      rw [if_pos (by rfl)]
      have f0 : l.getD 12 false = true := hd ⟨12, .data⟩ (by simp) rfl
      have f1 : a.eval (.tmp 15) = .slice (some ⟨E 2, 0, none⟩) 0 0 := hI.slot 12 (by omega) f0
      have f2 : a.eval (.tmp 19) = .slice (AA 2) 4 (cc 2) := hI.slot 16 (by omega) (hd ⟨16, .data⟩ (by simp) rfl)
      exact own_app hI hl HP.out rfl 2 (by omega) hn f0 _ (.tmp 15) (.tmp 19) rfl rfl f1 f2 K hK rfl rfl
    | 18, ho, hn, hd, hK =>
      have ho2 := Option.some.inj (show some _ = some o from ho)
      subst ho2
      rw [if_pos (by rfl)]
      refine value_wp (v := .slice (some ⟨W.heap.size, 0, none⟩) 0 0) (w1 := W.alloc (.cells #[] 145)) ?_ (hK _ _ ⟨_, X, C, hI.lit hl 3 (by omega) hn⟩)
      simp [execOp, go_sem]
    | 19, ho, hn, hd, hK =>
      have ho2 := Option.some.inj (show some _ = some o from ho)
      subst ho2
      rw [if_pos (by rfl)]
      refine value_wp (v := oVal h AA cc E X C 19) (w1 := W) ?_ (hK _ _ ⟨E, X, C, hI.pure hl 19 (by omega) (by omega) (by omega)⟩)
      have f : a.eval (.tmp 0) = .pointer (some ⟨h, 0, none⟩) := hI.t0
      exact run_mv _ _ f
    | 20, ho, hn, hd, hK =>
      have ho2 := Option.some.inj (show some _ = some o from ho)
      subst ho2
      rw [if_pos (by rfl)]
      refine value_wp (v := oVal h AA cc E X C 20) (w1 := W) ?_ (hK _ _ ⟨E, X, C, hI.pure hl 20 (by omega) (by omega) (by omega)⟩)
      have f : a.eval (.tmp 22) = .pointer (some ⟨h, 0, none⟩) := hI.slot 19 (by omega) (hd ⟨19, .data⟩ (by simp) rfl)
      exact run_nc _ _ _ f
    | 21, ho, hn, hd, hK =>
      have ho2 := Option.some.inj (show some _ = some o from ho)
      subst ho2
      rw [if_pos (by rfl)]
      refine value_wp (v := oVal h AA cc E X C 21) (w1 := W) ?_ (hK _ _ ⟨E, X, C, hI.pure hl 21 (by omega) (by omega) (by omega)⟩)
      have f : a.eval (.tmp 23) = .pointer (some ⟨h, 0, none⟩) := hI.slot 20 (by omega) (hd ⟨20, .data⟩ (by simp) rfl)
      exact run_fa _ _ _ _ f
    | 22, ho, hn, hd, hK =>
      have ho2 := Option.some.inj (show some _ = some o from ho)
      subst ho2
      rw [if_pos (by rfl)]
      refine value_wp (v := oVal h AA cc E X C 22) (w1 := W) ?_ (hK _ _ ⟨E, X, C, hI.pure hl 22 (by omega) (by omega) (by omega)⟩)
      have f : a.eval (.tmp 24) = .pointer (some ⟨h, 3, none⟩) := hI.slot 21 (by omega) (hd ⟨21, .data⟩ (by simp) rfl)
      have c := cell_old hI.below (HP.out 3 (by omega)).1
      exact run_ld _ _ _ _ _ _ f c
    | 23, ho, hn, hd, hK =>
      have ho2 := Option.some.inj (show some _ = some o from ho)
      subst ho2
      rw [if_pos (by rfl)]
      have f0 : l.getD 18 false = true := hd ⟨18, .data⟩ (by simp) rfl
      have f1 : a.eval (.tmp 21) = .slice (some ⟨E 3, 0, none⟩) 0 0 := hI.slot 18 (by omega) f0
      have f2 : a.eval (.tmp 25) = .slice (AA 3) 4 (cc 3) := hI.slot 22 (by omega) (hd ⟨22, .data⟩ (by simp) rfl)
      exact own_app hI hl HP.out rfl 3 (by omega) hn f0 _ (.tmp 21) (.tmp 25) rfl rfl f1 f2 K hK rfl rfl
    | 24, ho, hn, hd, hK =>
      have ho2 := Option.some.inj (show some _ = some o from ho)
      subst ho2
      rw [if_pos (by rfl)]
      refine value_wp (v := .slice (some ⟨W.heap.size, 0, none⟩) 0 0) (w1 := W.alloc (.cells #[] 145)) ?_ (hK _ _ ⟨_, X, C, hI.lit hl 4 (by omega) hn⟩)
      simp [execOp, go_sem]
    | 25, ho, hn, hd, hK =>
      have ho2 := Option.some.inj (show some _ = some o from ho)
      subst ho2
      rw [if_pos (by rfl)]
      refine value_wp (v := oVal h AA cc E X C 25) (w1 := W) ?_ (hK _ _ ⟨E, X, C, hI.pure hl 25 (by omega) (by omega) (by omega)⟩)
      have f : a.eval (.tmp 0) = .pointer (some ⟨h, 0, none⟩) := hI.t0
      exact run_mv _ _ f
    | 26, ho, hn, hd, hK =>
      have ho2 := Option.some.inj (show some _ = some o from ho)
      subst ho2
      rw [if_pos (by rfl)]
      refine value_wp (v := oVal h AA cc E X C 26) (w1 := W) ?_ (hK _ _ ⟨E, X, C, hI.pure hl 26 (by omega) (by omega) (by omega)⟩)
      have f : a.eval (.tmp 28) = .pointer (some ⟨h, 0, none⟩) := hI.slot 25 (by omega) (hd ⟨25, .data⟩ (by simp) rfl)
      exact run_nc _ _ _ f
    | 27, ho, hn, hd, hK =>
      have ho2 := Option.some.inj (show some _ = some o from ho)
      subst ho2
      rw [if_pos (by rfl)]
      refine value_wp (v := oVal h AA cc E X C 27) (w1 := W) ?_ (hK _ _ ⟨E, X, C, hI.pure hl 27 (by omega) (by omega) (by omega)⟩)
      have f : a.eval (.tmp 29) = .pointer (some ⟨h, 0, none⟩) := hI.slot 26 (by omega) (hd ⟨26, .data⟩ (by simp) rfl)
      exact run_fa _ _ _ _ f
    | 28, ho, hn, hd, hK =>
      have ho2 := Option.some.inj (show some _ = some o from ho)
      subst ho2
      rw [if_pos (by rfl)]
      refine value_wp (v := oVal h AA cc E X C 28) (w1 := W) ?_ (hK _ _ ⟨E, X, C, hI.pure hl 28 (by omega) (by omega) (by omega)⟩)
      have f : a.eval (.tmp 30) = .pointer (some ⟨h, 4, none⟩) := hI.slot 27 (by omega) (hd ⟨27, .data⟩ (by simp) rfl)
      have c := cell_old hI.below (HP.out 4 (by omega)).1
      exact run_ld _ _ _ _ _ _ f c
    | 29, ho, hn, hd, hK =>
      have ho2 := Option.some.inj (show some _ = some o from ho)
      subst ho2
      rw [if_pos (by rfl)]
      have f0 : l.getD 24 false = true := hd ⟨24, .data⟩ (by simp) rfl
      have f1 : a.eval (.tmp 27) = .slice (some ⟨E 4, 0, none⟩) 0 0 := hI.slot 24 (by omega) f0
      have f2 : a.eval (.tmp 31) = .slice (AA 4) 4 (cc 4) := hI.slot 28 (by omega) (hd ⟨28, .data⟩ (by simp) rfl)
      exact own_app hI hl HP.out rfl 4 (by omega) hn f0 _ (.tmp 27) (.tmp 31) rfl rfl f1 f2 K hK rfl rfl
    | 30, ho, hn, hd, hK =>
      have ho2 := Option.some.inj (show some _ = some o from ho)
      subst ho2
      rw [if_pos (by rfl)]
      have f0 : a.eval (.tmp 8) = .slice (some ⟨X 0, 0, none⟩) 4 (C 0) := hI.slot 5 (by omega) (hd ⟨5, .data⟩ (by simp) rfl)
      have f1 : a.eval (.tmp 14) = .slice (some ⟨X 1, 0, none⟩) 4 (C 1) := hI.slot 11 (by omega) (hd ⟨11, .data⟩ (by simp) rfl)
      have f2 : a.eval (.tmp 20) = .slice (some ⟨X 2, 0, none⟩) 4 (C 2) := hI.slot 17 (by omega) (hd ⟨17, .data⟩ (by simp) rfl)
      have f3 : a.eval (.tmp 26) = .slice (some ⟨X 3, 0, none⟩) 4 (C 3) := hI.slot 23 (by omega) (hd ⟨23, .data⟩ (by simp) rfl)
      have f4 : a.eval (.tmp 32) = .slice (some ⟨X 4, 0, none⟩) 4 (C 4) := hI.slot 29 (by omega) (hd ⟨29, .data⟩ (by simp) rfl)
      refine value_wp (v := oVal h AA cc E X C 30) (w1 := W) ?_ (hK _ _ ⟨E, X, C, hI.bld hl (fun i hi => ?_)⟩)
      · exact run_bl _ _ f0 f1 f2 f3 f4
      · match i, hi with
        | 0, _ => exact hd ⟨5, .data⟩ (by simp) rfl
        | 1, _ => exact hd ⟨11, .data⟩ (by simp) rfl
        | 2, _ => exact hd ⟨17, .data⟩ (by simp) rfl
        | 3, _ => exact hd ⟨23, .data⟩ (by simp) rfl
        | 4, _ => exact hd ⟨29, .data⟩ (by simp) rfl
    | 31, ho, hn, hd, hK =>
      have ho2 := Option.some.inj (show some _ = some o from ho)
      subst ho2
      rw [if_pos (by rfl)]
      have f30 : l.getD 30 false = true := hd ⟨30, .data⟩ (by simp) rfl
      have f1 : a.eval (.tmp 33) = _ := hI.slot 30 (by omega) f30
      have f2 : a.eval (.tmp 2) = .pointer (some ⟨w.heap.size, 0, none⟩) := hI.t2
      unfold Oper.wp
      have hb : 31 < l.size := by rw [hl]; decide
      have hn31 : l.getD 31 false = false := by simpa [Array.getD, hb] using hn
      rw [run_st _ _ f1 f2 (hI.box hn31)]
      exact hK _ _ ⟨E, X, C, hI.sto hl hn f30⟩
    | n + 32, ho, _, _, _ => exact absurd ho (by simp)
end Go.Proofs.Ytfeabjiccnnpcaa.Ca
