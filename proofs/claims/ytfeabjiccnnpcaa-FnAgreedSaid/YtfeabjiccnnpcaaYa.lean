import Derived.Test.YtfeabjiccnnpcaaXc
set_option linter.unusedVariables false
set_option linter.unusedSimpArgs false
namespace Go.Proofs.Ytfeabjiccnnpcaa.Ca
open Go.RowKit Go.Proofs.YtfeabjiccnnpcaaW.PrintWords Go.Proofs.YtfeabjiccnnpcaaW.PrintLast Go.Proofs.Ytfeabjiccnnpcaa.Ba Go.Proofs.Ytfeabjiccnnpcaa.Bfs Go.Proofs.Ytfeabjiccnnpcaa.Mp

theorem FlawV.neNil {w : World} {base : Nat} {v : Value} {o : Option (List Op)} (h : FlawV w base v o) : ∀ W : World, (binOp .neq 52 v (.slice none 0 0)).run Try.prog W = .ok (.bool o.isSome) W := by
  cases o with
  | none =>
    have e : v = .slice none 0 0 := h
    subst e
    intro W
    exact run_neq_slice_nil_any W 52 72 none 0 0 0 0 Try.underlying52
  | some f =>
    obtain ⟨g, c, rfl, _⟩ := Kd.R_form h.2 (List.length_pos_iff.2 h.1)
    intro W
    exact run_neq_slice_nil_any W 52 72 (some ⟨g, 0, none⟩) f.length c 0 0 Try.underlying52
theorem FlawV.lower {w : World} {base base' : Nat} {v : Value} {o : Option (List Op)} (h : FlawV w base v o) (hb : base' ≤ base) : FlawV w base' v o := by
  cases o with
  | none => exact h
  | some f => exact ⟨h.1, Kd.R_lower h.2 hb⟩

set_option maxHeartbeats 1000000 in
set_option maxRecDepth 100000 in
theorem ShortestFlaw (p : Proto) (v : Value) (n : Nat) (w : World) (hv : ProtoV w p v) (hp : validP p = true) (h0 : 0 < n) (hn : n ≤ 3) :
    Calls Try.prog 38 #[v, .int .i64 n] w fun e w' => ∃ vf i, e = .returned (.tuple #[vf, .bool (bfsS p n i).2.isSome]) ∧ (bfsS p n i).1.length ≤ i ∧ FlawV w' (w.heap.size + 1) vf (bfsS p n i).2 ∧ Below w.heap.size w w' := by
  have hv2 : ∀ o, Hid (ProtoV (w.alloc o) p v) := fun o => Lib.hid (hv.below ((Below.refl _ _).alloc (Nat.le_refl _) o))
  obtain ⟨A0, c0, A1, c1, A2, c2, A3, c3, A4, c4, rfl, _⟩ := hv
  have HP := Lib.hid hp
  clear hp
  go_enter Try.func38, Try.ntmps38
  go_wp2_with fail
  refine (isCaches p _ n _ (hv2 _).out).mono ?_
  rintro e w1 ⟨rfl, hb1⟩
  rw [okCaches_true HP.out h0 hn]
  obtain ⟨w0, hw0⟩ : ∃ w0, w0 = w.alloc (.cells #[.slice A0 p.rd.length c0, .slice A1 p.wr.length c1, .slice A2 p.ev.length c2, .slice A3 p.sr.length c3, .slice A4 p.sw.length c4] 50) := ⟨_, rfl⟩
  have hbox : w0.heap[w.heap.size]? = some (.cells #[.slice A0 p.rd.length c0, .slice A1 p.wr.length c1, .slice A2 p.ev.length c2, .slice A3 p.sr.length c3, .slice A4 p.sw.length c4] 50 (0, 0)) := by rw [hw0]; exact heap_alloc_new w _
  have hbw : Below w.heap.size w w0 := by rw [hw0]; exact (Below.refl _ _).alloc (Nat.le_refl _) _
  have hs0 : w0.heap.size = w.heap.size + 1 := by rw [hw0]; simp
  rw [← hw0] at hb1
  obtain ⟨p0, p1, p2, p3, p4⟩ := box5 ((hb1.block w.heap.size (by omega)).trans hbox)
  have HV1 := Lib.hid ((hv2 (.cells #[.slice A0 p.rd.length c0, .slice A1 p.wr.length c1, .slice A2 p.ev.length c2, .slice A3 p.sr.length c3, .slice A4 p.sw.length c4] 50)).out)
  rw [← hw0] at HV1
  have HV2 := Lib.hid (HV1.out.below hb1)
  have HB := Lib.hid (below_tr hbw hb1)
  have HS1 : Hid (w.heap.size + 1 ≤ w1.heap.size) := Lib.hid (by have := hb1.size; omega)
  clear hw0 hbox hbw hs0 hb1 hv2 HV1
  go_wp2_with fail
  refine (explore p _ n _ HV2.out HP.out h0 hn).mono ?_
  rintro e w2 ⟨vs, vf, i, rfl, hle, hR, hf, hb2⟩
  obtain ⟨fA, fn, fc, rfl⟩ := hf.shape
  have HF := Lib.hid hf
  have HB2 := Lib.hid (HB.out.trans (hb2.mono HB.out.size))
  have hne : ∀ W : World, (binOp .neq 52 (.slice fA fn fc) (.slice none 0 0)).run Try.prog W = .ok (.bool (bfsS p n i).2.isSome) W := hf.neNil
  have HLE := Lib.hid hle
  clear hR hf hb2 hle
  go_wp2_with fail
  go_ret2
  exact ⟨_, i, rfl, HLE.out, HF.out.lower HS1.out, HB2.out⟩

set_option maxHeartbeats 400000 in
theorem length95 (A : Option Addr) (n c : Nat) (w : World) (hn : n ≤ 9223372036854775807) : Calls Try.prog 95 #[.slice A n c] w fun e w' => e = .returned (.int .i64 n) ∧ w' = w := by
  go_enter Try.func95, Try.ntmps95
  go_wp2
  go_ret
  exact ⟨rfl, rfl⟩
set_option maxHeartbeats 1000000 in
set_option maxRecDepth 100000 in
theorem ReachedSystems (p : Proto) (v : Value) (n : Nat) (w : World) (hv : ProtoV w p v) (hp : validP p = true) (h0 : 0 < n) (hn : n ≤ 3) :
    Calls Try.prog 41 #[v, .int .i64 n] w fun e w' => ∃ i, e = .returned (.tuple #[.int .i64 ((bfsS p n i).1.length : Nat), .bool true]) ∧ (bfsS p n i).1.length ≤ i ∧ Below w.heap.size w w' := by
  have hv2 : ∀ o, Hid (ProtoV (w.alloc o) p v) := fun o => Lib.hid (hv.below ((Below.refl _ _).alloc (Nat.le_refl _) o))
  obtain ⟨A0, c0, A1, c1, A2, c2, A3, c3, A4, c4, rfl, _⟩ := hv
  have HP := Lib.hid hp
  clear hp
  go_enter Try.func41, Try.ntmps41
  go_wp2_with fail
  refine (isCaches p _ n _ (hv2 _).out).mono ?_
  rintro e w1 ⟨rfl, hb1⟩
  rw [okCaches_true HP.out h0 hn]
  obtain ⟨w0, hw0⟩ : ∃ w0, w0 = w.alloc (.cells #[.slice A0 p.rd.length c0, .slice A1 p.wr.length c1, .slice A2 p.ev.length c2, .slice A3 p.sr.length c3, .slice A4 p.sw.length c4] 50) := ⟨_, rfl⟩
  have hbox : w0.heap[w.heap.size]? = some (.cells #[.slice A0 p.rd.length c0, .slice A1 p.wr.length c1, .slice A2 p.ev.length c2, .slice A3 p.sr.length c3, .slice A4 p.sw.length c4] 50 (0, 0)) := by rw [hw0]; exact heap_alloc_new w _
  have hbw : Below w.heap.size w w0 := by rw [hw0]; exact (Below.refl _ _).alloc (Nat.le_refl _) _
  have hs0 : w0.heap.size = w.heap.size + 1 := by rw [hw0]; simp
  rw [← hw0] at hb1
  obtain ⟨p0, p1, p2, p3, p4⟩ := box5 ((hb1.block w.heap.size (by omega)).trans hbox)
  have HV1 := Lib.hid ((hv2 (.cells #[.slice A0 p.rd.length c0, .slice A1 p.wr.length c1, .slice A2 p.ev.length c2, .slice A3 p.sr.length c3, .slice A4 p.sw.length c4] 50)).out)
  rw [← hw0] at HV1
  have HV2 := Lib.hid (HV1.out.below hb1)
  have HB := Lib.hid (below_tr hbw hb1)
  have HS1 : Hid (w.heap.size + 1 ≤ w1.heap.size) := Lib.hid (by have := hb1.size; omega)
  clear hw0 hbox hbw hs0 hb1 hv2 HV1
  go_wp2_with fail
  refine (explore p _ n _ HV2.out HP.out h0 hn).mono ?_
  rintro e w2 ⟨vs, vf, i, rfl, hle, hR, hf, hb2⟩

  have HB2 := Lib.hid (HB.out.trans (hb2.mono HB.out.size))
  have hlen := nodes_le HP.out h0 hn i
  obtain ⟨sA, sc, rfl⟩ := Kd.R_slice hR
  have HLE := Lib.hid hle
  obtain ⟨L, hL⟩ : ∃ L, ((bfsS p n i).1.map Prod.fst).length = L := ⟨_, rfl⟩
  rw [hL]
  have HL : Hid ((bfsS p n i).1.length = L) := Lib.hid (by rw [← hL]; simp)
  have hL2 : L ≤ 9223372036854775807 := by have := HL.out; omega
  clear hR hf hb2 hle hlen hL
  go_wp2_with fail
  refine (length95 sA L sc _ hL2).mono ?_
  rintro e w3 ⟨rfl, rfl⟩
  go_wp2_with fail
  go_ret2
  exact ⟨i, (by show Ending.returned (.tuple #[.int .i64 (L : Int), .bool true]) = _; rw [HL.out]), HLE.out, HB2.out⟩

/-! a predicate over systems -/
def VSys (w : World) (x : Sys) (v : Value) : Prop := ∃ A c B d, v = .agg #[.slice A x.cs.length c, .slice B x.fs.length d, .bool x.m] ∧ Kd.C (Kd.int .i64) w A x.cs.length x.cs
theorem C_sysN {w : World} {A : Option Addr} {n : Nat} {xs : List Sys} (h : Kd.C kSys w A n xs) (k : Nat) (hk : k < xs.length) (hn : n = xs.length) : ∃ ad A1 c1 B1 d1, A = some ad ∧ w.cell? (ad.add (k * 3)) = some (.slice A1 xs[k].cs.length c1) ∧ w.cell? ⟨(ad.add (k * 3)).block, (ad.add (k * 3)).off + 1, none⟩ = some (.slice B1 xs[k].fs.length d1) ∧ w.cell? ⟨(ad.add (k * 3)).block, (ad.add (k * 3)).off + 2, none⟩ = some (.bool xs[k].m) ∧ Kd.C (Kd.int .i64) w A1 xs[k].cs.length xs[k].cs := by
  obtain ⟨ad, c, e, _, hK, hc0⟩ := Kd.C_get h (⟨[], [], false⟩ : Sys) (k : Int) (by omega) (by omega)
  have hc : ∀ j u, c[j]? = some u → w.cell? (ad.add (k * 3 + j)) = some u := hc0
  have e1 : xs.getD (k : Int).toNat (⟨[], [], false⟩ : Sys) = xs[k] := by simp [hk]
  rw [e1] at hK
  obtain ⟨A1, c1, B1, d1, rfl, _, h1, _, _⟩ := kSys_openK hK
  exact ⟨ad, A1, c1, B1, d1, e, hc 0 _ rfl, by rw [← add_field _ _ 1 (by omega)]; exact hc 1 _ rfl, by rw [← add_field _ _ 2 (by omega)]; exact hc 2 _ rfl, h1⟩

set_option maxHeartbeats 1000000 in
set_option maxRecDepth 100000 in
theorem indexFunc155 (A : Option Addr) (c g : Nat) (lb : Array Value) (xs : List (Sys)) (p : Sys → Bool) (w : World) (hr : Kd.C kSys w A xs.length xs)
    (eg : Enter g) (hp : ∀ x ∈ xs, Pays g lb VSys p w x) :
    Calls Try.prog 155 #[.slice A xs.length c, .func (.func g) #[] lb] w fun e w' => e = .returned (.int .i64 (idx p 0 xs)) ∧ Below w.heap.size w w' := by
  have HR := Lib.hid hr
  have hmx := C_max hr
  have HP := Lib.hid hp
  clear hr hp
  go_enter Try.func155, Try.ntmps155
  go_wp2
  go_loopw [4, 8] (fun r i wr => ∃ (k : Nat), k ≤ xs.length ∧ i = .int .i64 k ∧ r = .int .i64 0 ∧ Hid (idx p k (xs.drop k) = idx p 0 xs) ∧ Below w.heap.size w wr) (fun _ i _ => xs.length - (intOf i).toNat)
  case atStart => exact ⟨0, Nat.zero_le _, rfl, rfl, Lib.hid rfl, Below.refl _ _⟩
  case round =>
    obtain ⟨k, hk, rfl, rfl, HI, hB⟩ := hrel
    by_cases hlt : k < xs.length
    · obtain ⟨ad, A1, c1, B1, d1, rfl, r0, r1, r2, hCr⟩ := C_sysN HR.out k hlt rfl
      have hd := drop_at xs k hlt
      have hpx := HP.out _ (List.getElem_mem hlt) _ _ hB ⟨A1, c1, B1, d1, rfl, Kd.C_below hCr hB⟩
      obtain ⟨x, hx⟩ : ∃ x, xs[k] = x := ⟨_, rfl⟩
      rw [hx] at r0 r1 r2 hCr hd hpx
      have HX := Lib.hid hpx
      have HI2 : Hid ((if p x = true then (k : Int) else idx p (k + 1) (xs.drop (k + 1))) = idx p 0 xs) := Lib.hid (by have := HI.out; rw [hd, idx] at this; exact this)
      clear hpx hx hd HI
      have s0 := cell_old hB r0
      have s1 := cell_old hB r1
      have s2 := cell_old hB r2
      clear r0 r1 r2 hCr
      have eg' : ∀ (args : Array Value) (w : World), (callFunc g args).run Try.prog w = .ok (.enter g args) w := eg
      go_wp2_with (refine HX.out.mono ?_; rintro e w1 ⟨rfl, hb1⟩; by_cases hpx : p x = true)
      · have HF : Hid ((k : Int) = idx p 0 xs) := Lib.hid (by have := HI2.out; rw [if_pos hpx] at this; exact this)
        clear HI2
        go_wp2
        go_ret
        exact ⟨ret_int HF.out, below_tr hB hb1⟩
      · have HF : Hid (idx p (k + 1) (xs.drop (k + 1)) = idx p 0 xs) := Lib.hid (by have := HI2.out; rw [if_neg hpx] at this; exact this)
        have hpf : p x = false := by simpa using hpx
        clear HI2 hpx
        go_wp2
        exact ⟨⟨k + 1, by omega, by go_num, rfl, HF, below_tr hB hb1⟩, by simp [intOf]; omega⟩
    · have he : xs.drop k = [] := List.drop_of_length_le (by omega)
      have HF : Hid (-1 = idx p 0 xs) := Lib.hid (by have := HI.out; rw [he] at this; exact this)
      clear he HI
      go_wp2
      go_ret
      exact ⟨ret_int HF.out, hB⟩

set_option maxHeartbeats 1000000 in
set_option maxRecDepth 100000 in
theorem containsFunc89 (A : Option Addr) (c g : Nat) (lb : Array Value) (xs : List (Sys)) (p : Sys → Bool) (w : World) (hr : Kd.C kSys w A xs.length xs)
    (eg : Enter g) (hp : ∀ x ∈ xs, Pays g lb VSys p w x) :
    Calls Try.prog 89 #[.slice A xs.length c, .func (.func g) #[] lb] w fun e w' => e = .returned (.bool (xs.any p)) ∧ Below w.heap.size w w' := by
  have HR := Lib.hid hr
  have HP := Lib.hid hp
  clear hr hp
  have HA := Lib.hid (idx_any p 0 xs)
  go_enter Try.func89, Try.ntmps89
  go_wp2_with (go_at_call 155; refine (indexFunc155 _ _ _ _ xs p _ HR.out eg HP.out).mono ?_; rintro e w1 ⟨rfl, hb1⟩)
  go_ret
  exact ⟨ret_bool HA.out, hb1⟩


def heldN (cs : List Int) : Nat := (cs.filter fun c => c != 0).length
def ownN (cs : List Int) : Nat := (cs.filter fun c => decide (2 ≤ c)).length
def aloneB (x : Sys) : Bool := (ownN x.cs : Int) == 0 || (heldN x.cs : Int) == 1
theorem heldN_snoc (cs : List Int) (c : Int) : heldN (cs ++ [c]) = heldN cs + if c = 0 then 0 else 1 := by
  unfold heldN
  rw [List.filter_append]
  by_cases h : c = 0 <;> simp [h]
theorem ownN_snoc (cs : List Int) (c : Int) : ownN (cs ++ [c]) = ownN cs + if 2 ≤ c then 1 else 0 := by
  unfold ownN
  rw [List.filter_append]
  by_cases h : 2 ≤ c <;> simp [h]
theorem heldN_le (cs : List Int) : heldN cs ≤ cs.length := List.length_filter_le _ _
theorem ownN_le (cs : List Int) : ownN cs ≤ cs.length := List.length_filter_le _ _
set_option maxHeartbeats 1000000 in
set_option maxRecDepth 100000 in
theorem isAlone (x : Sys) (A B : Option Addr) (c d : Nat) (w : World) (hA : Kd.C (Kd.int .i64) w A x.cs.length x.cs) :
    Calls Try.prog 91 #[.agg #[.slice A x.cs.length c, .slice B x.fs.length d, .bool x.m]] w fun e w' => e = .returned (.bool (aloneB x)) ∧ Below w.heap.size w w' := by
  have HA := Lib.hid hA
  have hmx := C_max hA
  obtain ⟨n, hn⟩ : ∃ n, x.cs.length = n := ⟨_, rfl⟩
  have HN := Lib.hid hn
  rw [hn] at hmx
  rw [hn]
  have HC : ∀ o, Hid (Kd.C (Kd.int .i64) (w.alloc o) A n x.cs) := fun o => Lib.hid (by rw [← hn]; exact Kd.C_alloc hA o)
  clear hA hn
  go_enter Try.func91, Try.ntmps91
  go_wp2_with fail
  go_loop [3, 4, 10] (fun a b i => ∃ k : Nat, k ≤ n ∧ i = .int .i64 k ∧ a = .int .i64 (heldN (x.cs.take k)) ∧ b = .int .i64 (ownN (x.cs.take k))) (fun _ _ i => n - (intOf i).toNat)
  case atStart => exact ⟨0, Nat.zero_le _, rfl, rfl, rfl⟩
  case round =>
    obtain ⟨k, hk, rfl, rfl, rfl⟩ := hrel
    have h1 := heldN_le (x.cs.take k)
    have h2 := ownN_le (x.cs.take k)
    have h3 : (x.cs.take k).length ≤ k := List.length_take_le _ _
    by_cases hlt : k < n
    · obtain ⟨ad, rfl, hcell⟩ := C_int (HC (.cells #[.slice A n c, .slice B x.fs.length d, .bool x.m] 60)).out k (by rw [HN.out]; exact hlt) HN.out.symm
      have htk : x.cs.take (k + 1) = x.cs.take k ++ [x.cs[k]'(by rw [HN.out]; exact hlt)] := by rw [List.take_succ_eq_append_getElem]
      obtain ⟨z, hz⟩ : ∃ z, x.cs[k]'(by rw [HN.out]; exact hlt) = z := ⟨_, rfl⟩
      rw [hz] at hcell htk
      have hh := heldN_snoc (x.cs.take k) z
      have ho := ownN_snoc (x.cs.take k) z
      rw [← htk] at hh ho
      obtain ⟨hv, hhv⟩ : ∃ q, heldN (x.cs.take k) = q := ⟨_, rfl⟩
      obtain ⟨ov, hov⟩ : ∃ q, ownN (x.cs.take k) = q := ⟨_, rfl⟩
      rw [hhv] at hh h1 ⊢
      rw [hov] at ho h2 ⊢
      have HH := Lib.hid hh
      have HO := Lib.hid ho
      clear hz htk hh ho hhv hov
      by_cases hz : z = 0
      · have b1 : (z == 0) = true := by simp [hz]
        have b2 : (z != 0) = false := by simp [hz]
        have b3 : decide (2 ≤ z) = false := decide_eq_false (by omega)
        have HH2 : Hid (heldN (x.cs.take (k + 1)) = hv) := Lib.hid (by rw [HH.out, if_pos hz]; omega)
        have HO2 : Hid (ownN (x.cs.take (k + 1)) = ov) := Lib.hid (by rw [HO.out, if_neg (by omega)]; omega)
        clear hz HH HO
        go_wp2_with fail
        exact ⟨⟨k + 1, by omega, by go_num, by rw [HH2.out], by rw [HO2.out]⟩, by simp [intOf]; omega⟩
      · have b1 : (z == 0) = false := by rw [beq_eq_false_iff_ne]; exact hz
        have b2 : (z != 0) = true := by rw [bne_iff_ne]; exact hz
        have HH2 : Hid (heldN (x.cs.take (k + 1)) = hv + 1) := Lib.hid (by rw [HH.out, if_neg hz])
        by_cases h2z : 2 ≤ z
        · have b3 : decide (2 ≤ z) = true := decide_eq_true h2z
          have HO2 : Hid (ownN (x.cs.take (k + 1)) = ov + 1) := Lib.hid (by rw [HO.out, if_pos h2z])
          clear hz HH HO h2z
          go_wp2_with fail
          exact ⟨⟨k + 1, by omega, by go_num, by rw [HH2.out]; go_num, by rw [HO2.out]; go_num⟩, by simp [intOf]; omega⟩
        · have b3 : decide (2 ≤ z) = false := decide_eq_false h2z
          have HO2 : Hid (ownN (x.cs.take (k + 1)) = ov) := Lib.hid (by rw [HO.out, if_neg h2z]; omega)
          clear hz HH HO h2z
          go_wp2_with fail
          exact ⟨⟨k + 1, by omega, by go_num, by rw [HH2.out]; go_num, by rw [HO2.out]⟩, by simp [intOf]; omega⟩
    · obtain rfl : k = n := by omega
      have ht : x.cs.take k = x.cs := List.take_of_length_le (by rw [HN.out]; exact Nat.le_refl _)
      rw [ht] at h1 h2 ⊢
      obtain ⟨hv, hhv⟩ : ∃ q, heldN x.cs = q := ⟨_, rfl⟩
      obtain ⟨ov, hov⟩ : ∃ q, ownN x.cs = q := ⟨_, rfl⟩
      rw [hhv] at h1 ⊢
      rw [hov] at h2 ⊢
      have HAL : Hid (aloneB x = ((ov : Int) == 0 || (hv : Int) == 1)) := Lib.hid (by rw [aloneB, hhv, hov])
      clear ht hhv hov
      by_cases h0 : ov = 0
      · have b1 : ((ov : Int) == 0) = true := by simp [h0]
        have HF : Hid (aloneB x = true) := Lib.hid (by rw [HAL.out, b1]; rfl)
        clear h0 HAL
        go_wp2_with fail
        go_ret
        exact ⟨ret_bool HF.out.symm, (Below.refl _ _).alloc (Nat.le_refl _) _⟩
      · have b1 : ((ov : Int) == 0) = false := by rw [beq_eq_false_iff_ne]; omega
        have HF : Hid (aloneB x = ((hv : Int) == 1)) := Lib.hid (by rw [HAL.out, b1]; rfl)
        clear h0 HAL
        go_wp2_with fail
        go_ret
        exact ⟨ret_bool HF.out.symm, (Below.refl _ _).alloc (Nat.le_refl _) _⟩
set_option maxHeartbeats 1000000 in
set_option maxRecDepth 100000 in
theorem alone_pays (w : World) (x : Sys) : Pays 90 #[] VSys (fun x => !aloneB x) w x := by
  rintro w1 v hb ⟨A, c, B, d, rfl, hA⟩
  have HA : ∀ o, Hid (Kd.C (Kd.int .i64) (w1.alloc o) A x.cs.length x.cs) := fun o => Lib.hid (Kd.C_alloc hA o)
  clear hA
  go_enter Try.func90, Try.ntmps90
  go_wp2_with fail
  refine (isAlone x A B c d _ (HA _).out).mono ?_
  rintro e w2 ⟨rfl, hb2⟩
  go_wp2_with fail
  go_ret
  exact ⟨rfl, below_tr ((Below.refl _ _).alloc (Nat.le_refl _) _) hb2⟩
set_option maxHeartbeats 1000000 in
set_option maxRecDepth 100000 in
theorem OwnersAlone (p : Proto) (v : Value) (n : Nat) (w : World) (hv : ProtoV w p v) (hp : validP p = true) (h0 : 0 < n) (hn : n ≤ 3) :
    Calls Try.prog 39 #[v, .int .i64 n] w fun e w' => ∃ i, e = .returned (.tuple #[.bool (!((bfsS p n i).1.map Prod.fst).any fun x => !aloneB x), .bool true]) ∧ (bfsS p n i).1.length ≤ i ∧ Below w.heap.size w w' := by
  have hv2 : ∀ o, Hid (ProtoV (w.alloc o) p v) := fun o => Lib.hid (hv.below ((Below.refl _ _).alloc (Nat.le_refl _) o))
  obtain ⟨A0, c0, A1, c1, A2, c2, A3, c3, A4, c4, rfl, _⟩ := hv
  have HP := Lib.hid hp
  clear hp
  go_enter Try.func39, Try.ntmps39
  go_wp2_with fail
  refine (isCaches p _ n _ (hv2 _).out).mono ?_
  rintro e w1 ⟨rfl, hb1⟩
  rw [okCaches_true HP.out h0 hn]
  obtain ⟨w0, hw0⟩ : ∃ w0, w0 = w.alloc (.cells #[.slice A0 p.rd.length c0, .slice A1 p.wr.length c1, .slice A2 p.ev.length c2, .slice A3 p.sr.length c3, .slice A4 p.sw.length c4] 50) := ⟨_, rfl⟩
  have hbox : w0.heap[w.heap.size]? = some (.cells #[.slice A0 p.rd.length c0, .slice A1 p.wr.length c1, .slice A2 p.ev.length c2, .slice A3 p.sr.length c3, .slice A4 p.sw.length c4] 50 (0, 0)) := by rw [hw0]; exact heap_alloc_new w _
  have hbw : Below w.heap.size w w0 := by rw [hw0]; exact (Below.refl _ _).alloc (Nat.le_refl _) _
  have hs0 : w0.heap.size = w.heap.size + 1 := by rw [hw0]; simp
  rw [← hw0] at hb1
  obtain ⟨p0, p1, p2, p3, p4⟩ := box5 ((hb1.block w.heap.size (by omega)).trans hbox)
  have HV1 := Lib.hid ((hv2 (.cells #[.slice A0 p.rd.length c0, .slice A1 p.wr.length c1, .slice A2 p.ev.length c2, .slice A3 p.sr.length c3, .slice A4 p.sw.length c4] 50)).out)
  rw [← hw0] at HV1
  have HV2 := Lib.hid (HV1.out.below hb1)
  have HB := Lib.hid (below_tr hbw hb1)
  have HS1 : Hid (w.heap.size + 1 ≤ w1.heap.size) := Lib.hid (by have := hb1.size; omega)
  clear hw0 hbox hbw hs0 hb1 hv2 HV1
  go_wp2_with fail
  refine (explore p _ n _ HV2.out HP.out h0 hn).mono ?_
  rintro e w2 ⟨vs, vf, i, rfl, hle, hR, hf, hb2⟩

  have HB2 := Lib.hid (HB.out.trans (hb2.mono HB.out.size))
  obtain ⟨sA, sc, rfl, _, hC⟩ := Kd.R_reads hR
  have HLE := Lib.hid hle
  have h89 := containsFunc89 sA sc 90 #[] _ (fun x => !aloneB x) _ hC (enters _ _ _ Try.func90 (by kernel_rfl) rfl) (fun x _ => alone_pays _ x)
  obtain ⟨L, hL⟩ : ∃ L, ((bfsS p n i).1.map Prod.fst).length = L := ⟨_, rfl⟩
  rw [hL] at h89 ⊢
  obtain ⟨bv, hbv⟩ : ∃ b, (((bfsS p n i).1.map Prod.fst).any fun x => !aloneB x) = b := ⟨_, rfl⟩
  rw [hbv] at h89
  have HBV := Lib.hid hbv
  have H89 := Lib.hid h89
  clear hR hf hb2 hle hC hL h89 hbv
  go_wp2_with fail
  refine H89.out.mono ?_
  rintro e w3 ⟨rfl, hb3⟩
  have HB3 := Lib.hid (HB2.out.trans (hb3.mono HB2.out.size))
  clear hb3
  go_wp2_with fail
  go_ret2
  exact ⟨i, (by show Ending.returned (.tuple #[.bool (!bv), .bool true]) = _; rw [HBV.out]), HLE.out, HB3.out⟩
end Go.Proofs.Ytfeabjiccnnpcaa.Ca
