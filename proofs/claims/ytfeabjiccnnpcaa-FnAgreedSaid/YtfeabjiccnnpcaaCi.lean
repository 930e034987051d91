import Derived.Test.YtfeabjiccnnpcaaCh
set_option linter.unusedVariables false
set_option linter.unusedSimpArgs false
namespace Go.Proofs.Ytfeabjiccnnpcaa.Ca
open Go.RowKit Go.Proofs.YtfeabjiccnnpcaaW.PrintWords Go.Proofs.YtfeabjiccnnpcaaW.PrintLast Go.Proofs.Ytfeabjiccnnpcaa.Ba

def busS (p : Proto) : Sys → Int → Int → List Op → Int × Int × Bool
  | _, m, b, [] => (m, b, true)
  | x, m, b, o :: r => if (stepS p x o).2.1 = true then (0, 0, false) else busS p (stepS p x o).1 (if (stepS p x o).2.2.1 = true then m + 1 else m) (b + (stepS p x o).2.2.2) r
theorem seeTo_bd2 (t : List Rule) (c : Nat) (x : Sys) (i : Nat) : (seeTo t c x i).2 ≤ if c < i then i - 1 else i := by
  induction i with
  | zero => simp [seeTo]
  | succ i ih =>
    simp only [seeTo, seeAt]
    split
    · rename_i h
      split at ih <;> split <;> try omega
    · rename_i h
      have hic : i ≠ c := fun e => h (.inl e)
      split <;> split at ih <;> split <;> simp only [] <;> omega
theorem see_bd (t : List Rule) (c : Nat) (x : Sys) (n : Nat) (hn : x.cs.length = n) (hc : c < n) : 0 ≤ (see t c x).2 ∧ (see t c x).2 ≤ n - 1 := by
  have h1 := (seeTo_bd t c x x.cs.length).1
  have h2 := seeTo_bd2 t c x x.cs.length
  rw [hn, if_pos hc] at h2
  rw [hn] at h1
  simp only [see, hn]
  exact ⟨h1, by omega⟩
theorem stepS_back (p : Proto) (x : Sys) (o : Op) (n : Nat) (hx : x.Ok n) (h0 : 0 ≤ o.cache) (h1 : o.cache < n) : 0 ≤ (stepS p x o).2.2.2 ∧ (stepS p x o).2.2.2 ≤ n := by
  have s3 := see_bd p.sr o.cache.toNat x n hx.lc (by omega)
  have s4 := see_bd p.sw o.cache.toNat x n hx.lc (by omega)
  simp only [stepS, fin]
  repeat' split
  all_goals simp only []
  all_goals omega

set_option maxHeartbeats 4000000 in
set_option maxRecDepth 100000 in
theorem BusTraffic (p : Proto) (v : Value) (n : Nat) (A : Option Addr) (c : Nat) (ops : List Op) (w : World) (hv : ProtoV w p v) (hp : validP p = true) (h0 : 0 < n) (hn : n ≤ 3) (hops : Kd.C kOp w A ops.length ops) (hok : okOps ops n = true) :
    Calls Try.prog 45 #[v, .int .i64 n, .slice A ops.length c] w fun e w' => e = .returned (.tuple #[.int .i64 (busS p (first n) 0 0 ops).1, .int .i64 (busS p (first n) 0 0 ops).2.1, .bool (busS p (first n) 0 0 ops).2.2]) ∧ Below w.heap.size w w' := by
  have HV := Lib.hid hv
  have HOPS := Lib.hid hops
  have HOK := Lib.hid hok
  have HP := Lib.hid hp
  have hlen := okOps_len hok
  obtain ⟨A0, c0, A1, c1, A2, c2, A3, c3, A4, c4, rfl, _⟩ := hv
  clear hops hok hp
  go_enter Try.func45, Try.ntmps45
  go_wp2_with fail
  refine (isCaches p _ n _ (HV.out.below ((Below.refl _ _).alloc (Nat.le_refl _) _))).mono ?_
  rintro e w1 ⟨rfl, hb1⟩
  rw [okCaches_true HP.out h0 hn]
  have hB1 := below_tr ((Below.refl w.heap.size w).alloc (Nat.le_refl _) _) hb1
  have HW2 := Lib.hid hb1
  clear hb1
  go_wp2_with fail
  refine (areOps A c ops n _ (Kd.C_below HOPS.out hB1) (by omega) (by omega)).mono ?_
  rintro e w2 ⟨rfl, hb2⟩
  rw [HOK.out]
  go_wp2_with fail
  refine (firstSystem n _ h0 hn).mono ?_
  rintro e w3 ⟨a, b, rfl, hra, hrb, hb3⟩
  have hsz : w.heap.size + 1 ≤ w2.heap.size := by have h1 := HW2.out.size; have h2 := hb2.size; simp at h1; omega
  have hB4 : ∀ o, Below (w.heap.size + 1) ((w.alloc (.cells #[.slice A0 p.rd.length c0, .slice A1 p.wr.length c1, .slice A2 p.ev.length c2, .slice A3 p.sr.length c3, .slice A4 p.sw.length c4] 50))) (w3.alloc o) := fun o =>
    (((HW2.out.mono (by simp)).trans (hb2.mono (by have := HW2.out.size; simp at this; omega))).trans (hb3.mono hsz)).alloc (by have := hb3.size; omega) o
  have hx0 : ((w.alloc (.cells #[.slice A0 p.rd.length c0, .slice A1 p.wr.length c1, .slice A2 p.ev.length c2, .slice A3 p.sr.length c3, .slice A4 p.sw.length c4] 50))).heap[w.heap.size]? = some (.cells #[.slice A0 p.rd.length c0, .slice A1 p.wr.length c1, .slice A2 p.ev.length c2, .slice A3 p.sr.length c3, .slice A4 p.sw.length c4] 50 (0, 0)) := by
    exact heap_alloc_new w _
  have hBw : ∀ o, Below w.heap.size w (w3.alloc o) := fun o => ((Below.refl w.heap.size w).alloc (Nat.le_refl _) _).trans ((hB4 o).mono (by omega))
  have hga : w2.heap.size ≤ a ∧ a < w3.heap.size := by
    obtain ⟨_, _, e1, h1, h2, _, _⟩ := Kd.R_form hra (by simp [first]; omega)
    injection e1 with e1; injection e1 with e1; injection e1 with e1; subst e1; exact ⟨h1, h2⟩
  have hgb : w2.heap.size ≤ b ∧ b < w3.heap.size := by
    obtain ⟨_, _, e1, h1, h2, _, _⟩ := Kd.R_form hrb (by simp [first]; omega)
    injection e1 with e1; injection e1 with e1; injection e1 with e1; subst e1; exact ⟨h1, h2⟩
  have hS : SysAt (w3.alloc (.cells #[.slice (some ⟨a, 0, none⟩) n n, .slice (some ⟨b, 0, none⟩) n n, .bool true] 60)) w3.heap.size a b n n n (first n) :=
    ⟨heap_alloc_new w3 _, Kd.R_lower (Kd.R_below hra ((Below.refl _ _).alloc (Nat.le_refl _) _)) (Nat.zero_le _), Kd.R_lower (Kd.R_below hrb ((Below.refl _ _).alloc (Nat.le_refl _) _)) (Nat.zero_le _)⟩
  have HS := Lib.hid hS
  have hge : ∀ k, own3 w3.heap.size a b k → w.heap.size + 1 ≤ k := by have h3 := hb3.size; rintro k (rfl | rfl | rfl) <;> omega
  have HGE := Lib.hid hge
  -- what lies in every later world
  have key : ∀ wr, Chg (own3 w3.heap.size a b) (w3.alloc (.cells #[.slice (some ⟨a, 0, none⟩) n n, .slice (some ⟨b, 0, none⟩) n n, .bool true] 60)) wr →
      Below w.heap.size w wr ∧ wr.heap[w.heap.size]? = some (.cells #[.slice A0 p.rd.length c0, .slice A1 p.wr.length c1, .slice A2 p.ev.length c2, .slice A3 p.sr.length c3, .slice A4 p.sw.length c4] 50 (0, 0)) := by
    intro wr hc
    have hbl : Below (w.heap.size + 1) _ wr := (hB4 _).trans (hc.below (by have h3 := hb3.size; simp; omega) hge)
    exact ⟨((Below.refl w.heap.size w).alloc (Nat.le_refl _) _).trans (hbl.mono (by omega)), (hbl.block _ (by omega)).trans hx0⟩
  have KEY := Lib.hid key
  have hln := Lib.hid (And.intro h0 hn)
  clear hra hrb hga hgb hS hge key hB4 hx0 hBw hB1 HW2 hb2 hb3 hsz
  go_wp2_with fail
  go_loopw [6, 7, 8, 10, 11, 31] (fun r6 r7 r8 mv bv i wr => ∃ (k : Nat) (x : Sys) (m bb : Int), k ≤ ops.length ∧ i = .int .i64 k ∧ r6 = .int .i64 0 ∧ r7 = .int .i64 0 ∧ r8 = .bool false ∧ mv = .int .i64 m ∧ bv = .int .i64 bb ∧ 0 ≤ m ∧ m ≤ k ∧ 0 ≤ bb ∧ bb ≤ 3 * k ∧ Hid (x.Ok n) ∧ Hid (busS p x m bb (ops.drop k) = busS p (first n) 0 0 ops) ∧ Hid (SysAt wr w3.heap.size a b n n n x) ∧ Hid (Chg (own3 w3.heap.size a b) (w3.alloc (.cells #[.slice (some ⟨a, 0, none⟩) n n, .slice (some ⟨b, 0, none⟩) n n, .bool true] 60)) wr)) (fun _ _ _ _ _ i _ => ops.length - (intOf i).toNat)
  case atStart => exact ⟨0, first n, 0, 0, Nat.zero_le _, rfl, rfl, rfl, rfl, rfl, rfl, by omega, by omega, by omega, by omega, Lib.hid (Sys.Ok.first n), Lib.hid rfl, HS, Lib.hid (Chg.refl _ _)⟩
  case round =>
    obtain ⟨k, x, m, bb, hk, rfl, rfl, rfl, rfl, rfl, rfl, hm0, hm1, hb0, hb1, HX, HR, HSr, HC⟩ := hrel
    obtain ⟨hbw, hx0⟩ := KEY.out wr HC.out
    by_cases hlt : k < ops.length
    · obtain ⟨ad, rfl, o0, o1⟩ := C_opN HOPS.out k hlt rfl
      replace o0 := cell_old hbw o0
      replace o1 := cell_old hbw o1
      have hd := drop_at ops k hlt
      have hoo := okOps_at HOK.out k hlt
      obtain ⟨o, ho⟩ : ∃ o, ops[k] = o := ⟨_, rfl⟩
      rw [ho] at o0 o1 hd hoo
      have HR2 : Hid ((if (stepS p x o).2.1 = true then (0, 0, false) else busS p (stepS p x o).1 (if (stepS p x o).2.2.1 = true then m + 1 else m) (bb + (stepS p x o).2.2.2) (ops.drop (k + 1))) = busS p (first n) 0 0 ops) := Lib.hid (by have := HR.out; rw [hd, busS] at this; exact this)
      have HOO := Lib.hid hoo
      have bx : ∀ oo, _ ∧ _ := fun oo => box5 (b := w.heap.size) ((Below.heap_alloc wr oo w.heap.size (heap_lt hx0)).trans hx0)
      have c0' := fun oo => (bx oo).1
      have c1' := fun oo => (bx oo).2.1
      have c2' := fun oo => (bx oo).2.2.1
      have c3' := fun oo => (bx oo).2.2.2.1
      have c4' := fun oo => (bx oo).2.2.2.2
      have HBW := Lib.hid hbw
      clear ho hd hoo bx hbw hx0 HR
      go_wp2_with fail
      refine (step w3.heap.size a b n n n x p _ o _ (HSr.out.below ((Below.refl _ _).alloc (Nat.le_refl _) _)) hln.out.1 hln.out.2 (fun w1 hc => HV.out.below (((HBW.out.alloc HBW.out.size _).trans (hc.below (B := w.heap.size) (by have := HBW.out.size; simp; omega) (fun q hq => by have := HGE.out q hq; omega))))) HOO.out.2.2.1 HOO.out.2.2.2.1 (fun j _ => HX.out.bd j) (valid_tabs HP.out) ⟨HOO.out.1, HOO.out.2.1⟩).mono ?_
      rintro e w5 ⟨rfl, hS5, hC5⟩
      have HX5 := Lib.hid (HX.out.step HP.out o HOO.out.2.2.1 HOO.out.2.2.2.1)
      have HS5 := Lib.hid hS5
      have hbk := stepS_back p x o n HX.out HOO.out.2.2.1 HOO.out.2.2.2.1
      have HC5 := Lib.hid ((HC.out.alloc _).trans hC5)
      obtain ⟨y, hy⟩ : ∃ y, stepS p x o = y := ⟨_, rfl⟩
      obtain ⟨y, fl, sn, bk⟩ := y
      rw [hy] at HR2 HX5 HS5 hbk
      rw [hy]
      simp only at HR2 HX5 HS5 hbk
      clear hy hS5 hC5
      cases fl with
      | true =>
        have HF : Hid ((0, 0, false) = busS p (first n) 0 0 ops) := Lib.hid (by have := HR2.out; rwa [if_pos rfl] at this)
        go_wp2_with fail
        go_ret3
        rw [← HF.out]
        exact ⟨rfl, (KEY.out w5 HC5.out).1⟩
      | false =>
        cases sn with
        | true =>
          have HF : Hid (busS p y (m + 1) (bb + bk) (ops.drop (k + 1)) = busS p (first n) 0 0 ops) := Lib.hid (by have := HR2.out; rwa [if_neg (by simp), if_pos rfl] at this)
          go_wp2_with fail
          go_roundw
          case rel => exact ⟨k + 1, y, m + 1, bb + bk, by omega, by go_num, rfl, rfl, rfl, rfl, rfl, by omega, by omega, by omega, by omega, HX5, HF, HS5, HC5⟩
          case measure => simp [intOf]; omega
        | false =>
          have HF : Hid (busS p y m (bb + bk) (ops.drop (k + 1)) = busS p (first n) 0 0 ops) := Lib.hid (by have := HR2.out; rwa [if_neg (by simp), if_neg (by simp)] at this)
          go_wp2_with fail
          go_roundw
          case rel => exact ⟨k + 1, y, m, bb + bk, by omega, by go_num, rfl, rfl, rfl, rfl, rfl, by omega, by omega, by omega, by omega, HX5, HF, HS5, HC5⟩
          case measure => simp [intOf]; omega
    · have he : ops.drop k = [] := List.drop_of_length_le (by omega)
      have HF : Hid ((m, bb, true) = busS p (first n) 0 0 ops) := Lib.hid (by have := HR.out; rw [he] at this; exact this)
      clear hx0 he HR hbw
      go_wp2_with fail
      go_ret3
      rw [← HF.out]
      exact ⟨rfl, (KEY.out wr HC.out).1⟩
end Go.Proofs.Ytfeabjiccnnpcaa.Ca
