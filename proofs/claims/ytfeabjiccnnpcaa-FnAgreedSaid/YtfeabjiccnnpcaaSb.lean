import Derived.Test.YtfeabjiccnnpcaaSa
import Derived.Test.YtfeabjiccnnpcaaCm
set_option linter.unusedVariables false
set_option linter.unusedSimpArgs false
namespace Go.Proofs.Ytfeabjiccnnpcaa.Sa
open Go.RowKit Go.Proofs.YtfeabjiccnnpcaaW.PrintWords Go.Proofs.YtfeabjiccnnpcaaW.PrintLast Go.Proofs.Ytfeabjiccnnpcaa.Ba Go.Proofs.Ytfeabjiccnnpcaa.Ca

theorem okOps_snoc {ops : List Ca.Op} {m a b : Int} (h : okOps ops m = true) (hl : ops.length < 40) (ha : 0 ≤ a ∧ a < 3) (hb : 0 ≤ b ∧ b < m) : okOps (ops ++ [⟨a, b⟩]) m = true := by
  have h1 : okOp ⟨a, b⟩ m = true := by simp [okOp, inR]; omega
  have h2 : ops.any (fun o => !okOp o m) = false := by
    have := h; simp only [okOps, Bool.and_eq_true] at this; simpa using this.2
  rw [okOps, List.any_append, h2]
  simp [h1]; omega
theorem out_row {w : World} {base : Nat} {ok : Nat → Prop} {v : Value} {ops : List Ca.Op} (h : kOp.R 72 w base ok v ops) : ∃ A c, v = .slice A ops.length c ∧ Kd.C kOp w A ops.length ops := by
  obtain ⟨A, c, he, hl, hC⟩ := Kd.R_reads h
  exact ⟨A, c, he, hC⟩

set_option maxHeartbeats 4000000 in
set_option maxRecDepth 100000 in
theorem R8Ops (A : Option Addr) (n c : Nat) (bs : List Int) (m : Int) (w : World) (hB : Bytes w A n bs) (h0 : 0 < m) (h1 : m ≤ 3) :
    Calls Try.prog 37 #[.slice A n c, .int .i64 m] w fun e w' => ∃ A' c' ops, e = .returned (.slice A' ops.length c') ∧ Kd.C kOp w' A' ops.length ops ∧ okOps ops m = true ∧ ops.length ≤ 11 ∧ Below w.heap.size w w' := by
  have HBy := Lib.hid hB
  clear hB
  go_enter Try.func37, Try.ntmps37
  go_wp2_with fail
  refine (l00From A n c w).mono ?_
  rintro e w1 ⟨rfl, hS1, hB1, hlt1⟩
  obtain ⟨g, hg⟩ : ∃ g, w.heap.size = g := ⟨_, rfl⟩
  have HG := Lib.hid hg
  have HB1 := Lib.hid hB1
  have HBy1 := Lib.hid (HBy.out.below hB1)
  rw [hg] at hS1 hlt1 ⊢
  have HS1 := Lib.hid hS1
  have HL1 := Lib.hid hlt1
  clear hS1 hB1 hlt1 hg
  go_wp2_with fail
  refine (pick g A n c bs 0 12 _ (HS1.out.below ((Below.refl _ _).alloc (Nat.le_refl _) _)) (by omega) (HBy1.out.below ((Below.refl _ _).alloc (Nat.le_refl _) _)) (by omega) (by omega)).mono ?_
  rintro e w2 ⟨t, rfl, ht, hS2, hC2⟩
  have hb2 : Below g w1 w2 := (((Below.refl g w1).alloc (Nat.le_of_lt HL1.out) _)).trans (hC2.below (by have := HL1.out; simp; omega) (fun q hq => by omega))
  have hR0 : kOp.R 72 w2 g (fun k => g < k) (.slice (some ⟨w1.heap.size, 0, none⟩) 0 0) [] := by
    have h := R_lit0 kOp 72 g w1 (Nat.le_of_lt HL1.out) (fun k => g < k) HL1.out
    exact Kd.R_step h (fun k ho hlt => hC2.block k hlt (by omega))
  have HR0 := Lib.hid hR0
  have HS2 := Lib.hid hS2
  have Hb2 := Lib.hid hb2
  have HT := Lib.hid ht
  have HBW : Hid (Below g w w2) := Lib.hid (by have := HB1.out; rw [HG.out] at this; exact this.trans hb2)
  have hsz2 : w1.heap.size < w2.heap.size := by have := hC2.size; simp at this; omega
  have HZ2 := Lib.hid hsz2
  clear hR0 hS2 hb2 ht hC2 hsz2
  go_wp2_with fail
  go_loopw [6, 7, 8] (fun v i p wr => ∃ (q : Int) (ops : List Ca.Op), i = .int .i64 q ∧ (0 ≤ q ∧ ops.length + q ≤ 11) ∧ Hid (kOp.R 72 wr g (fun k => g < k) v ops) ∧ Hid (Src wr g A n c (1 + 2 * ops.length)) ∧ Hid (Below g w wr) ∧ Hid (g < wr.heap.size) ∧ Hid (okOps ops m = true)) (fun _ i _ _ => (intOf i).toNat)
  case atStart => exact ⟨t, [], rfl, ⟨HT.out.1, by have := HT.out.2; simp; omega⟩, HR0, HS2, HBW, Lib.hid (by have := HZ2.out; have := HL1.out; omega), Lib.hid rfl⟩
  case round =>
    obtain ⟨q, ops, rfl, ⟨hq, hql⟩, HR, HS, HBr, HLr, HO⟩ := hrel
    by_cases hlt : 0 < q
    · have b1 : decide (0 < q) = true := decide_eq_true hlt
      have BW : Bytes wr A n bs := HBy.out.below (by have := HBr.out; rw [← HG.out] at this; exact this)
      have HBWr := Lib.hid BW
      clear BW
      go_wp2_with fail
      refine (pick g A n c bs _ 3 _ HS.out (by omega) HBWr.out (by omega) (by omega)).mono ?_
      rintro e w3 ⟨a, rfl, ha, hS3, hC3⟩
      have HA := Lib.hid ha
      have HS3 := Lib.hid hS3
      have HC3 := Lib.hid hC3
      have hby3 : Bytes w3 A n bs := HBy.out.below (by have h1 := HBr.out; rw [← HG.out] at h1; exact h1.trans (hC3.below (by have := HLr.out; rw [HG.out]; omega) (fun q hq => by rw [HG.out]; omega)))
      have HBy3 := Lib.hid hby3
      clear ha hS3 hC3 hby3
      go_wp2_with fail
      refine (pick g A n c bs _ m _ (HS3.out.below ((Below.refl _ _).alloc (Nat.le_refl _) _)) (by omega) (HBy3.out.below ((Below.refl _ _).alloc (Nat.le_refl _) _)) h0 (by omega)).mono ?_
      rintro e w4 ⟨b, rfl, hb, hS4, hC4⟩
      have hz3 : g < w3.heap.size := by have := HLr.out; have := HC3.out.size; omega
      have hblk : w4.heap[w3.heap.size]? = some (.cells #[.int .i64 a, .int .i64 0] 72 (0, 0)) := by
        rw [hC4.block _ (by simp) (by omega)]; exact heap_alloc_new w3 _
      have z0 := cell_blk hblk 0 _ rfl
      have z1 := cell_blk hblk 1 _ rfl
      have z1f := Lib.frozen_of_heap hblk 1
      have HB4 := Lib.hid hb
      have HS4 := Lib.hid hS4
      have HC4 := Lib.hid hC4
      have HZ3 := Lib.hid hz3
      have hl3 : wr.heap.size ≤ w3.heap.size := HC3.out.size
      have hl4 : w3.heap.size + 1 ≤ w4.heap.size := by have := hC4.size; simpa using this
      have haF : ∀ k, (w4.setCell ⟨w3.heap.size, 1, none⟩ (.int .i64 b)).heap.size ≤ k → g < k := fun k hk => by simp at hk; omega
      have haO : kOp.R 72 (w4.setCell ⟨w3.heap.size, 1, none⟩ (.int .i64 b)) g (fun k => g < k) u6 ops := Kd.R_step HR.out (fun k ho hlt => by
        have e1 : w3.heap[k]? = wr.heap[k]? := HC3.out.block k hlt (by omega)
        have e2 : w4.heap[k]? = (w3.alloc (.cells #[.int .i64 a, .int .i64 0] 72)).heap[k]? := hC4.block k (by simp; omega) (by omega)
        rw [Below.heap_setCell _ _ _ _ (by simp; omega), e2, Below.heap_alloc _ _ _ (by omega), e1])
      have haB : Below g w (w4.setCell ⟨w3.heap.size, 1, none⟩ (.int .i64 b)) :=
        (((HBr.out.trans (HC3.out.below (by have := HLr.out; omega) (fun q hq => by omega))).alloc (by omega) _).trans (hC4.below (by simp; omega) (fun q hq => by omega))).setCell (p := ⟨w3.heap.size, 1, none⟩) (by simp; omega) _
      have HAF := Lib.hid haF
      have HAO := Lib.hid haO
      have HAB := Lib.hid haB
      have HL4 := Lib.hid (And.intro hl3 hl4)
      clear hb hS4 hC4 hz3 hblk haF haO haB hl3 hl4
      go_wp2_with (at_builtin; refine Kd.R_append kOp (w0 := w) g rfl (.tmp 25) (.tmp 27) 52 72 (.agg #[.int .i64 0, .int .i64 0]) 16 rfl Try.underlying52 info72 rfl (by decide) (by omega) u6 ops ⟨a, b⟩ [.int .i64 a, .int .i64 b] (fun k => g < k) (fun _ => False) rfl (by first | (go_simp; done) | (go_simp; rfl)) (kOp_mkM _ _ _ ⟨a, b⟩) (fun _ hk => hk.elim) HAF.out HAO.out HAB.out (by have := HL4.out; have := HZ3.out; simp; omega) (by omega) ?_; intro v5 w5 hR5 hB5 hG5 hat5)
      go_roundw
      case rel =>
        refine ⟨q - 1, ops ++ [⟨a, b⟩], by go_num, by simp; omega, Lib.hid hR5, Lib.hid ?_, Lib.hid hB5, Lib.hid ?_, Lib.hid ?_⟩
        · have hs := HS4.out
          have e5 : w5.heap[g]? = w4.heap[g]? := by
            rw [hG5.block g (by have := HL4.out; have := HZ3.out; simp; omega) (fun e => by have := HR.out.1 g e.symm; omega), Below.heap_setCell _ _ _ _ (by have := HZ3.out; simp; omega)]
          have := hs.move e5
          obtain ⟨i, s, z1, z2, z3⟩ := this
          exact ⟨i, s, z1, by simp; omega, z3⟩
        · have := hG5.size; have := HL4.out; have := HZ3.out; simp at *; omega
        · exact okOps_snoc HO.out (by omega) HA.out HB4.out
      case measure => simp [intOf]; omega
    · have b1 : decide (0 < q) = false := decide_eq_false hlt
      obtain ⟨A', c', hv, hC'⟩ := out_row HR.out
      subst hv
      have HC' := Lib.hid hC'
      clear hC' HR
      go_wp2_with fail
      go_ret
      exact ⟨A', c', ops, rfl, HC'.out, HO.out, by omega, by have := HBr.out; rw [← HG.out] at this; exact this⟩
end Go.Proofs.Ytfeabjiccnnpcaa.Sa
