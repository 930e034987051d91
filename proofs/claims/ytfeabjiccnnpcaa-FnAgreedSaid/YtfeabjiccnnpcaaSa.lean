import Derived.Test.YtfeabjiccnnpcaaCa
import Derived.Laws.Bits64b
set_option linter.unusedVariables false
set_option linter.unusedSimpArgs false
namespace Go.Proofs.Ytfeabjiccnnpcaa.Sa
open Go.RowKit Go.Proofs.YtfeabjiccnnpcaaW.PrintWords Go.Proofs.YtfeabjiccnnpcaaW.PrintLast Go.Proofs.Ytfeabjiccnnpcaa.Ba Go.Proofs.Ytfeabjiccnnpcaa.Ca

/-- a source of choices: its cursor is at most k -/
def Src (w : World) (g : Nat) (A : Option Addr) (n c : Nat) (k : Int) : Prop := ∃ i s : Int, 0 ≤ i ∧ i ≤ k ∧ w.heap[g]? = some (.cells #[.slice A n c, .int .i64 i, .int .u64 s] 192 (0, 0))
/-- the bytes that a source reads -/
def Bytes (w : World) (A : Option Addr) (n : Nat) (bs : List Int) : Prop := Kd.C (Kd.int .u8) w A n bs ∧ n = bs.length ∧ ∀ z ∈ bs, 0 ≤ z ∧ z ≤ 255
theorem Bytes.below {w w' : World} {A : Option Addr} {n : Nat} {bs : List Int} (h : Bytes w A n bs) (hb : Below w.heap.size w w') : Bytes w' A n bs := ⟨Kd.C_below h.1 hb, h.2⟩
theorem Src.below {w w' : World} {g : Nat} {A : Option Addr} {n c : Nat} {k : Int} (h : Src w g A n c k) (hb : Below w.heap.size w w') : Src w' g A n c k := by
  obtain ⟨i, s, h1, h2, h3⟩ := h
  exact ⟨i, s, h1, h2, (hb.block g (heap_lt h3)).trans h3⟩
theorem Src.move {w w' : World} {g : Nat} {A : Option Addr} {n c : Nat} {k : Int} (h : Src w g A n c k) (hb : w'.heap[g]? = w.heap[g]?) : Src w' g A n c k := by
  obtain ⟨i, s, h1, h2, h3⟩ := h
  exact ⟨i, s, h1, h2, hb.trans h3⟩

theorem and255 (x : Int) : 0 ≤ Go.bits .and .u64 x 255 ∧ Go.bits .and .u64 x 255 ≤ 255 := by
  have h2 : (BitVec.ofInt 64 (255 : Int)).toNat = 255 := by decide
  have e : Go.bits .and .u64 x 255 = IntKind.u64.wrap ((BitVec.ofInt 64 x &&& BitVec.ofInt 64 (255 : Int)).toNat : Int) := rfl
  have h3 : (BitVec.ofInt 64 x &&& BitVec.ofInt 64 (255 : Int)).toNat ≤ 255 := by
    rw [BitVec.toNat_and, h2]; exact Nat.and_le_right
  rw [e, IntKind.wrap_u64]
  omega

set_option maxHeartbeats 1000000 in
set_option maxRecDepth 100000 in
theorem l00From (A : Option Addr) (n c : Nat) (w : World) : Calls Try.prog 71 #[.slice A n c] w fun e w' => e = .returned (.pointer (some ⟨w.heap.size, 0, none⟩)) ∧ Src w' w.heap.size A n c 0 ∧ Below w.heap.size w w' ∧ w.heap.size < w'.heap.size := by
  go_enter Try.func71, Try.ntmps71
  go_wp2
  go_ret
  exact ⟨rfl, ⟨0, 0, by omega, by omega, heap_alloc_new w _⟩, (Below.refl _ _).alloc (Nat.le_refl _) _, by simp⟩

theorem set12 {w : World} {g : Nat} {x0 x1 x2 : Value} {t : TypeId} {fr : Nat × Nat} (h : w.heap[g]? = some (.cells #[x0, x1, x2] t fr)) (u v : Value) : ((w.setCell ⟨g, 1, none⟩ u).setCell ⟨g, 2, none⟩ v).heap[g]? = some (.cells #[x0, u, v] t fr) := by
  have h1 := Joins.block_setCell (i := 1) h u
  exact Joins.block_setCell (i := 2) h1 v

set_option maxHeartbeats 4000000 in
set_option maxRecDepth 100000 in
theorem next (g : Nat) (A : Option Addr) (n c : Nat) (bs : List Int) (k : Int) (w : World) (hS : Src w g A n c k) (hk : k < 1000) (hB : Bytes w A n bs) :
    Calls Try.prog 134 #[.pointer (some ⟨g, 0, none⟩)] w fun e w' => ∃ r, e = .returned (.int .i64 r) ∧ (0 ≤ r ∧ r ≤ 255) ∧ Src w' g A n c (k + 1) ∧ Chg (fun q => q = g) w w' := by
  obtain ⟨i, s, h1, h2, hblk⟩ := hS
  obtain ⟨hC, hn, hq⟩ := hB
  have c0 := cell_blk hblk 0 _ rfl
  have c1 := cell_blk hblk 1 _ rfl
  have c2 := cell_blk hblk 2 _ rfl
  have f1 := Lib.frozen_of_heap hblk 1
  have f2 := Lib.frozen_of_heap hblk 2
  have HB := Lib.hid hblk
  have HQ := Lib.hid hq
  have e1 : wrap64 (i + 1) = i + 1 := by rw [wrap64]; omega
  clear hblk hq
  subst hn
  by_cases hlt : i < (bs.length : Int)
  · have b1 : decide (i < (bs.length : Int)) = true := decide_eq_true hlt
    have b2 : decide (i + 1 ≤ (bs.length : Int)) = true := decide_eq_true (by omega)
    obtain ⟨ad, rfl, hcell⟩ := C_int hC i.toNat (by omega) rfl
    have hr := HQ.out (bs[i.toNat]'(by omega)) (List.getElem_mem _)
    obtain ⟨r, hre⟩ : ∃ r, bs[i.toNat]'(by omega) = r := ⟨_, rfl⟩
    rw [hre] at hcell hr
    have HR := Lib.hid hr
    clear hre hr hC
    go_enter Try.func134, Try.ntmps134
    go_wp2
    repeat (go_quiet (fail); try go_wp2)
    go_ret
    refine ⟨_, rfl, by have := HR.out; rw [wrap64]; omega, ⟨i + 1, _, by omega, by omega, set12 (w := _) HB.out _ _⟩, (((((Chg.refl (fun q => q = g) w).drewN _).setCell (p := ⟨g, 1, none⟩) (.inl rfl) _).setCell (p := ⟨g, 2, none⟩) (.inl rfl) _).drewN _)⟩
  · have b1 : decide (i < (bs.length : Int)) = false := decide_eq_false hlt
    have b2 : decide (i + 1 ≤ (bs.length : Int)) = false := decide_eq_false (by omega)
    clear hC
    go_enter Try.func134, Try.ntmps134
    go_wp2
    repeat (go_quiet (fail); try go_wp2)
    go_ret
    refine ⟨_, rfl, by have := and255 (IntKind.u64.wrap (IntKind.u64.wrap (IntKind.u64.wrap (s * 6364136223846793005)) + 1442695040888963407) / 1099511627776); rw [wrap64]; omega, ⟨i + 1, _, by omega, by omega, set12 (w := _) HB.out _ _⟩, (((((Chg.refl (fun q => q = g) w).drewN _).setCell (p := ⟨g, 1, none⟩) (.inl rfl) _).setCell (p := ⟨g, 2, none⟩) (.inl rfl) _).drewN _)⟩


set_option maxHeartbeats 4000000 in
set_option maxRecDepth 100000 in
theorem pick (g : Nat) (A : Option Addr) (n c : Nat) (bs : List Int) (k m : Int) (w : World) (hS : Src w g A n c k) (hk : k < 1000) (hB : Bytes w A n bs) (h0 : 0 < m) (h1 : m ≤ 200) :
    Calls Try.prog 72 #[.pointer (some ⟨g, 0, none⟩), .int .i64 m] w fun e w' => ∃ r, e = .returned (.int .i64 r) ∧ (0 ≤ r ∧ r < m) ∧ Src w' g A n c (k + 1) ∧ Chg (fun q => q = g) w w' := by
  have HS := Lib.hid hS
  have HB := Lib.hid hB
  clear hS hB
  by_cases h2 : m ≤ 1
  · have b1 : decide (m ≤ 1) = true := decide_eq_true h2
    go_enter Try.func72, Try.ntmps72
    go_wp2
    go_ret
    obtain ⟨i, s, h3, h4, h5⟩ := HS.out
    exact ⟨_, rfl, by omega, ⟨i, s, h3, by omega, h5⟩, Chg.refl _ _⟩
  · have b1 : decide (m ≤ 1) = false := decide_eq_false h2
    have b2 : decide (200 < m) = false := decide_eq_false (by omega)
    have b3 : (m == 0) = false := by rw [beq_eq_false_iff_ne]; omega
    have b4 : (m == -1) = false := by rw [beq_eq_false_iff_ne]; omega
    go_enter Try.func72, Try.ntmps72
    go_wp2_with fail
    refine (next g A n c bs k _ HS.out hk HB.out).mono ?_
    rintro e w1 ⟨r, rfl, hr, hS1, hC1⟩
    have HR := Lib.hid hr
    have HS1 := Lib.hid hS1
    have HC1 := Lib.hid hC1
    clear hr hS1 hC1
    go_wp2
    go_ret
    have e1 : Int.tmod r m = r % m := Int.tmod_eq_emod_of_nonneg HR.out.1
    have e2 := Int.emod_nonneg r (show m ≠ 0 by omega)
    have e3 := Int.emod_lt_of_pos r h0
    refine ⟨_, rfl, ?_, HS1.out, HC1.out⟩
    first | (rw [e1]; omega) | (rw [wrap64, e1]; omega) | skip

set_option maxHeartbeats 1000000 in
set_option maxRecDepth 100000 in
theorem one (g : Nat) (A : Option Addr) (n c : Nat) (bs : List Int) (k m : Int) (w : World) (hS : Src w g A n c k) (hk : k < 1000) (hB : Bytes w A n bs) (h0 : 0 < m) (h1 : m ≤ 200) :
    Calls Try.prog 73 #[.pointer (some ⟨g, 0, none⟩), .int .i64 m] w fun e w' => ∃ r : Bool, e = .returned (.bool r) ∧ Src w' g A n c (k + 1) ∧ Chg (fun q => q = g) w w' := by
  have HS := Lib.hid hS
  have HB := Lib.hid hB
  clear hS hB
  go_enter Try.func73, Try.ntmps73
  go_wp2_with fail
  refine (pick g A n c bs k m _ HS.out hk HB.out h0 h1).mono ?_
  rintro e w1 ⟨r, rfl, hr, hS1, hC1⟩
  have HS1 := Lib.hid hS1
  have HC1 := Lib.hid hC1
  clear hS1 hC1
  go_wp2
  go_ret
  exact ⟨_, rfl, HS1.out, HC1.out⟩
end Go.Proofs.Ytfeabjiccnnpcaa.Sa
