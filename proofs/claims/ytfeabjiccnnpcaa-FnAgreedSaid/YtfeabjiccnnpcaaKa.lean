import Derived.Test.YtfeabjiccnnpcaaCm
import Derived.Test.YtfeabjiccnnpcaaBld
import Derived.Test.YtfeabjiccnnpcaaShelf
set_option linter.unusedVariables false
set_option linter.unusedSimpArgs false
namespace Go.Proofs.Ytfeabjiccnnpcaa.Ca
open Go.RowKit Go.Proofs.YtfeabjiccnnpcaaW.PrintWords Go.Proofs.YtfeabjiccnnpcaaW.PrintLast Go.Proofs.Ytfeabjiccnnpcaa.Ba

theorem cel3 {w : World} {b : Nat} {x0 x1 x2 : Value} {t : TypeId} {fr : Nat × Nat} (h : w.heap[b]? = some (.cells #[x0, x1, x2] t fr)) : w.cell? ⟨b, 0, none⟩ = some x0 ∧ w.cell? ⟨b, 1, none⟩ = some x1 ∧ w.cell? ⟨b, 2, none⟩ = some x2 :=
  ⟨cell_blk h 0 _ rfl, cell_blk h 1 _ rfl, cell_blk h 2 _ rfl⟩
/-- a system's text -/
def keyAt (c : Int) (f : Bool) : List UInt8 := UInt8.ofNat (48 + c).toNat :: (if f then [102] else [])
def keyTo (x : Sys) : Nat → List UInt8
  | 0 => []
  | k + 1 => keyTo x k ++ keyAt (x.c k) (x.f k)
def keyS (x : Sys) : List UInt8 := keyTo x x.cs.length ++ (if x.m then [109] else [])
theorem byteCells_snoc (l : List UInt8) (b : UInt8) (z : Int) (h : z = b.toNat) : Lib.byteCells l ++ [.int .u8 z] = Lib.byteCells (l ++ [b]) := by
  subst h; simp [Lib.byteCells]
theorem keyTo_len (x : Sys) (k : Nat) : (keyTo x k).length ≤ 2 * k := by
  induction k with
  | zero => simp [keyTo]
  | succ k ih => simp only [keyTo, keyAt, List.length_append]; split <;> simp <;> omega
theorem byte48 (c : Int) (h0 : 0 ≤ c) (h3 : c ≤ 3) : (48 + c) = ((UInt8.ofNat (48 + c).toNat).toNat : Int) := by
  have : c = 0 ∨ c = 1 ∨ c = 2 ∨ c = 3 := by omega
  rcases this with rfl | rfl | rfl | rfl <;> rfl

set_option maxHeartbeats 4000000 in
set_option maxRecDepth 100000 in
theorem key153 (A B : Option Addr) (n c d : Nat) (x : Sys) (w : World) (h0 : 0 < n) (hn : n ≤ 3) (hx : x.Ok n) (hA : Kd.C (Kd.int .i64) w A n x.cs) (hB : Kd.C Kd.bool w B n x.fs) :
    Calls Try.prog 153 #[.agg #[.slice A n c, .slice B n d, .bool x.m]] w fun e w' => e = .returned (.string ⟨(keyS x).toArray⟩) ∧ Below w.heap.size w w' := by
  have HA := Lib.hid hA
  have HB := Lib.hid hB
  have HX := Lib.hid hx
  have HLA := Lib.hid hx.lc
  have HLB := Lib.hid hx.lf
  clear hA hB hx
  obtain ⟨xm, hxm⟩ : ∃ m, x.m = m := ⟨_, rfl⟩
  rw [hxm]
  have HXM := Lib.hid hxm
  clear hxm
  obtain ⟨w1, hw1⟩ : ∃ w1, w1 = (w.alloc (.cells #[.slice A n c, .slice B n d, .bool xm] 60)).alloc (.cells #[.pointer none, .slice none 0 0] 98) := ⟨_, rfl⟩
  have hbw : Below w.heap.size w w1 := by rw [hw1]; exact below_al2 _ _ _
  have hs1 : w1.heap.size = w.heap.size + 2 := by rw [hw1]; simp
  have hx0 : w1.heap[w.heap.size]? = some (.cells #[.slice A n c, .slice B n d, .bool xm] 60 (0, 0)) := by rw [hw1, Below.heap_alloc _ _ _ (by simp)]; exact heap_alloc_new w _
  have hbl : Lib.IsBuilder 98 5 (w.heap.size + 1) (w.heap.size + 1) [] w1 := by
    rw [hw1]; have := Bld.bld_new (w.alloc (.cells #[.slice A n c, .slice B n d, .bool xm] 60)); simpa using this
  have HBL := Lib.hid hbl
  have HBW := Lib.hid hbw
  have HX0 := Lib.hid hx0
  have HS1 := Lib.hid hs1
  have c0 := cell_blk hx0 0 _ rfl
  have c1 := cell_blk hx0 1 _ rfl
  have c2 := cell_blk hx0 2 _ rfl
  clear hbl hbw hx0 hs1
  go_enter Try.func153, Try.ntmps153
  go_wp2_with fail
  simp only [← hw1]
  clear hw1
  go_loopw [9] (fun i wr => ∃ k : Nat, k ≤ n ∧ i = .int .i64 k ∧ Hid (Lib.IsBuilder 98 5 (w.heap.size + 1) (w.heap.size + 1) (Lib.byteCells (keyTo x k)) wr) ∧ Hid (Below (w.heap.size + 1) w1 wr)) (fun i _ => n - (intOf i).toNat)
  case atStart => exact ⟨0, Nat.zero_le _, rfl, HBL, Lib.hid (Below.refl _ _)⟩
  case round =>
    obtain ⟨k, hk, rfl, HBr, HWr⟩ := hrel
    have hB0 : w.heap.size + 1 ≤ wr.heap.size := by have := HWr.out.size; have := HS1.out; omega
    have hx0 := (HWr.out.block w.heap.size (by omega)).trans HX0.out
    have HBT := Lib.hid (HBW.out.trans (HWr.out.mono (by omega)))
    by_cases hlt : k < n
    · obtain ⟨ad, rfl, hcell⟩ := C_int HA.out k (by rw [HLA.out]; exact hlt) HLA.out.symm
      obtain ⟨ad', rfl, hcell'⟩ := C_bool HB.out k (by rw [HLB.out]; exact hlt) HLB.out.symm
      have hc : x.cs[k]'(by rw [HLA.out]; exact hlt) = x.c k := by simp [Sys.c, HLA.out, hlt]
      have hf : x.fs[k]'(by rw [HLB.out]; exact hlt) = x.f k := by simp [Sys.f, HLB.out, hlt]
      have hbd := HX.out.bd k
      rw [hc] at hcell
      rw [hf] at hcell'
      obtain ⟨cv, hcv⟩ : ∃ z, x.c k = z := ⟨_, rfl⟩
      obtain ⟨fv, hfv⟩ : ∃ z, x.f k = z := ⟨_, rfl⟩
      rw [hcv] at hcell hbd
      rw [hfv] at hcell'
      have HKT : Hid (keyTo x (k + 1) = keyTo x k ++ keyAt cv fv) := Lib.hid (by rw [keyTo, hcv, hfv])
      have cv0 : 0 ≤ cv := hbd.1
      have cv3 : cv ≤ 3 := hbd.2
      have k0 : (0 : Int) ≤ (k : Int) := by omega
      have k1 : (k : Int) < (n : Int) := by omega
      have hlen := keyTo_len x k
      obtain ⟨q0, q1, q2⟩ := cel3 hx0
      have HX0r := Lib.hid hx0
      have Hcell' := Lib.hid hcell'
      have hcell := cell_old HBT.out hcell
      clear hc hf hbd hcv hfv c0 c1 c2 hx0 hcell'
      go_wp2_with fail
      refine (Bld.writeByte (w.heap.size + 1) (w.heap.size + 1) _ _ _ HBr.out (by rw [Lib.byteCells_length]; omega) hB0).mono ?_
      rintro e w2 ⟨rfl, hbl, hb2⟩
      rw [byteCells_snoc _ (UInt8.ofNat (48 + cv).toNat) _ (by rw [← byte48 cv cv0 cv3])] at hbl
      have HBL2 := Lib.hid hbl
      have HW2 := Lib.hid (HWr.out.trans hb2)
      have hx2 := (hb2.block w.heap.size (by omega)).trans HX0r.out
      obtain ⟨q0, q1, q2⟩ := cel3 hx2
      have hcell2 := cell_old (HBW.out.trans (HW2.out.mono (by omega))) Hcell'.out
      have hB2 : w.heap.size + 1 ≤ w2.heap.size := by have := HW2.out.size; have := HS1.out; omega
      clear hbl hb2 hx2 HBr HWr HBT hB0
      cases fv with
      | true =>
        go_wp2_with fail
        refine (Bld.writeByte (w.heap.size + 1) (w.heap.size + 1) _ _ _ (.inr HBL2.out) (by rw [Lib.byteCells_length]; simp; omega) hB2).mono ?_
        rintro e w3 ⟨rfl, hbl, hb3⟩
        rw [byteCells_snoc _ (102 : UInt8) 102 (by decide)] at hbl
        have HBL3 : Hid (Lib.IsBuilder 98 5 (w.heap.size + 1) (w.heap.size + 1) (Lib.byteCells (keyTo x (k + 1))) w3) := Lib.hid (.inr (by rw [HKT.out]; simpa [keyAt] using hbl))
        have HW3 := Lib.hid (HW2.out.trans hb3)
        clear hbl hb3
        go_wp2_with fail
        go_roundw
        case rel => exact ⟨k + 1, by omega, by go_num, HBL3, HW3⟩
        case measure => simp [intOf]; omega
      | false =>
        have HBL3 : Hid (Lib.IsBuilder 98 5 (w.heap.size + 1) (w.heap.size + 1) (Lib.byteCells (keyTo x (k + 1))) w2) := Lib.hid (.inr (by rw [HKT.out]; simpa [keyAt] using HBL2.out))
        go_wp2_with fail
        go_roundw
        case rel => exact ⟨k + 1, by omega, by go_num, HBL3, HW2⟩
        case measure => simp [intOf]; omega
    · obtain rfl : k = n := by omega
      have hlen := keyTo_len x k
      obtain ⟨q0, q1, q2⟩ := cel3 hx0
      have HKS : Hid (keyS x = keyTo x k ++ (if xm then [109] else [])) := Lib.hid (by rw [keyS, HLA.out, HXM.out])
      clear c0 c1 c2 hx0
      cases xm with
      | true =>
        go_wp2_with fail
        refine (Bld.writeByte (w.heap.size + 1) (w.heap.size + 1) _ _ _ HBr.out (by rw [Lib.byteCells_length]; omega) hB0).mono ?_
        rintro e w2 ⟨rfl, hbl, hb2⟩
        rw [byteCells_snoc _ (109 : UInt8) 109 (by decide)] at hbl
        have HBL2 := Lib.hid hbl
        have HW2 := Lib.hid (HBT.out.trans (hb2.mono (by omega)))
        have hB2 : w.heap.size + 1 ≤ w2.heap.size := by have := hb2.size; omega
        clear hbl hb2
        go_wp2_with fail
        refine (Try.Builder_String_any (w.heap.size + 1) (w.heap.size + 1) _ _ (.inr HBL2.out) hB2).mono ?_
        rintro e w3 ⟨rfl, hb3⟩
        go_wp2_with fail
        go_ret
        exact ⟨ret_str (by rw [HKS.out]; rfl), HW2.out.trans (hb3.mono (by omega))⟩
      | false =>
        go_wp2_with fail
        refine (Try.Builder_String_any (w.heap.size + 1) (w.heap.size + 1) _ _ HBr.out hB0).mono ?_
        rintro e w3 ⟨rfl, hb3⟩
        go_wp2_with fail
        go_ret
        exact ⟨ret_str (by rw [HKS.out]; simp), HBT.out.trans (hb3.mono (by omega))⟩
end Go.Proofs.Ytfeabjiccnnpcaa.Ca
