import Derived.Test.YtfeabjiccnnpcaaFn
set_option linter.unusedVariables false
set_option linter.unusedSimpArgs false
namespace Go.Proofs.Ytfeabjiccnnpcaa.Ca
open Go.RowKit Go.Proofs.YtfeabjiccnnpcaaW.PrintWords Go.Proofs.YtfeabjiccnnpcaaW.PrintLast Go.Proofs.Ytfeabjiccnnpcaa.Ba

def inR (n lo hi : Int) : Bool := decide (lo ≤ n) && decide (n ≤ hi)
theorem inR_true {n lo hi : Int} : inR n lo hi = true ↔ lo ≤ n ∧ n ≤ hi := by simp [inR]

set_option maxHeartbeats 400000 in
theorem inRange (n lo hi : Int) (w : World) : Calls Try.prog 96 #[.int .i64 n, .int .i64 lo, .int .i64 hi] w fun e w' => e = .returned (.bool (inR n lo hi)) ∧ w' = w := by
  by_cases h : lo ≤ n
  · have h1 : decide (lo ≤ n) = true := decide_eq_true h
    have HF : Hid (inR n lo hi = decide (n ≤ hi)) := Lib.hid (by simp [inR, h])
    clear h
    go_enter Try.func96, Try.ntmps96
    go_wp2
    go_ret
    exact ⟨ret_bool HF.out.symm, rfl⟩
  · have h1 : decide (lo ≤ n) = false := decide_eq_false h
    have HF : Hid (inR n lo hi = false) := Lib.hid (by simp [inR, h])
    clear h
    go_enter Try.func96, Try.ntmps96
    go_wp2
    go_ret
    exact ⟨ret_bool HF.out.symm, rfl⟩

def isCp (n : Int) : Bool := inR n 0 3
set_option maxHeartbeats 400000 in
theorem isCopy (n : Int) (w : World) : Calls Try.prog 97 #[.int .i64 n] w fun e w' => e = .returned (.bool (isCp n)) ∧ w' = w := by
  go_enter Try.func97, Try.ntmps97
  go_wp2_with (go_at_call 96; refine (inRange _ _ _ _).mono ?_; rintro e w' ⟨rfl, rfl⟩)
  go_ret
  exact ⟨rfl, rfl⟩

def okOp (o : Op) (n : Int) : Bool := inR o.kind 0 2 && inR o.cache 0 (n - 1)
set_option maxHeartbeats 400000 in
theorem isOp (o : Op) (n : Int) (w : World) (h0 : 0 ≤ n) (h1 : n ≤ 9223372036854775807) : Calls Try.prog 105 #[.agg #[.int .i64 o.kind, .int .i64 o.cache], .int .i64 n] w fun e w' => e = .returned (.bool (okOp o n)) ∧ Below w.heap.size w w' := by
  cases h : inR o.kind 0 2 with
  | true =>
    have HF : Hid (okOp o n = inR o.cache 0 (n - 1)) := Lib.hid (by simp [okOp, h])
    have Hh := Lib.hid h
    clear h
    go_enter Try.func105, Try.ntmps105
    go_wp2_with fail
    refine (inRange _ _ _ _).mono ?_
    rintro e w' ⟨rfl, rfl⟩
    rw [Hh.out]
    go_wp2_with fail
    refine (inRange _ _ _ _).mono ?_
    rintro e w' ⟨rfl, rfl⟩
    go_wp2_with fail
    go_ret
    exact ⟨ret_bool HF.out.symm, (Below.refl _ _).alloc (Nat.le_refl _) _⟩
  | false =>
    have HF : Hid (okOp o n = false) := Lib.hid (by simp [okOp, h])
    have Hh := Lib.hid h
    clear h
    go_enter Try.func105, Try.ntmps105
    go_wp2_with fail
    refine (inRange _ _ _ _).mono ?_
    rintro e w' ⟨rfl, rfl⟩
    rw [Hh.out]
    go_wp2_with fail
    go_ret
    exact ⟨ret_bool HF.out.symm, (Below.refl _ _).alloc (Nat.le_refl _) _⟩

theorem enters (f : Nat) (fn : Func) (c : Code) (hf : Try.prog.funcs[f]? = some fn) (hn : (fn.name == "runtime.NumGoroutine") = false) (hb : fn.body = some c) : Enter f := fun args w => enters_of hf hn hb args w

def badRule (r : Rule) : Bool := !isCp r.next || !isCp r.shared
set_option maxHeartbeats 400000 in
theorem badRule_pays (w : World) (r : Rule) : Pays 100 #[] VRule badRule w r := by
  rintro w1 v hb rfl
  cases h : isCp r.next with
  | false =>
    have HF : Hid (badRule r = true) := Lib.hid (by simp [badRule, h])
    have Hh := Lib.hid h
    clear h
    go_enter Try.func100, Try.ntmps100
    go_wp2_with fail
    refine (isCopy _ _).mono ?_
    rintro e w' ⟨rfl, rfl⟩
    rw [Hh.out]
    go_wp2_with fail
    go_ret
    exact ⟨ret_bool HF.out.symm, (Below.refl _ _).alloc (Nat.le_refl _) _⟩
  | true =>
    have HF : Hid (badRule r = !isCp r.shared) := Lib.hid (by simp [badRule, h])
    have Hh := Lib.hid h
    clear h
    go_enter Try.func100, Try.ntmps100
    go_wp2_with fail
    refine (isCopy _ _).mono ?_
    rintro e w' ⟨rfl, rfl⟩
    rw [Hh.out]
    go_wp2_with fail
    refine (isCopy _ _).mono ?_
    rintro e w' ⟨rfl, rfl⟩
    go_wp2_with fail
    go_ret
    exact ⟨ret_bool HF.out.symm, (Below.refl _ _).alloc (Nat.le_refl _) _⟩

set_option maxHeartbeats 400000 in
theorem nonzero_pays (w : World) (x : Int) : Pays 161 #[] VInt (fun x => x != 0) w x := by
  rintro w1 v hb rfl
  go_enter Try.func161, Try.ntmps161
  go_wp2
  go_ret
  exact ⟨rfl, Below.refl _ _⟩

set_option maxHeartbeats 400000 in
theorem notOp_pays (w : World) (B : Nat) (n : Int) (hB : w.cell? ⟨B, 0, none⟩ = some (.int .i64 n)) (h0 : 0 ≤ n) (h1 : n ≤ 9223372036854775807) (o : Op) : Pays 157 #[.pointer (some ⟨B, 0, none⟩)] VOp (fun o => !okOp o n) w o := by
  rintro w1 v hb rfl
  have hc : ∀ o, (w1.alloc o).cell? ⟨B, 0, none⟩ = some (.int .i64 n) := fun o => cell_old ((Below.refl _ _).alloc (Nat.le_refl _) o) (cell_old hb hB)
  clear hB
  go_enter Try.func157, Try.ntmps157
  go_wp2_with (go_at_call 105; refine (isOp _ _ _ h0 h1).mono ?_; rintro e w' ⟨rfl, hb2⟩)
  go_ret
  exact ⟨rfl, ((Below.refl _ _).alloc (Nat.le_refl _) _).trans (hb2.mono (by simp))⟩

def okOps (ops : List Op) (n : Int) : Bool := decide (ops.length ≤ 40) && !ops.any (fun o => !okOp o n)
set_option maxHeartbeats 400000 in
theorem areOps (A : Option Addr) (c : Nat) (ops : List Op) (n : Int) (w : World) (hr : Kd.C kOp w A ops.length ops) (h0 : 0 ≤ n) (h1 : n ≤ 9223372036854775807) :
    Calls Try.prog 92 #[.slice A ops.length c, .int .i64 n] w fun e w' => e = .returned (.bool (okOps ops n)) ∧ Below w.heap.size w w' := by
  have HR : ∀ o, Hid (Kd.C kOp (w.alloc o) A ops.length ops) := fun o => Lib.hid (Kd.C_below hr ((Below.refl _ _).alloc (Nat.le_refl _) o))
  have hmx := C_max hr
  clear hr
  by_cases hlen : ops.length ≤ 40
  · have HF : Hid (okOps ops n = !ops.any (fun o => !okOp o n)) := Lib.hid (by simp [okOps, hlen])
    have hl : decide (ops.length ≤ 40) = true := decide_eq_true hlen
    go_enter Try.func92, Try.ntmps92
    go_wp2_with (go_at_call 156; refine (containsFunc156 _ _ 157 _ ops (fun o => !okOp o n) _ (HR _).out (enters _ _ _ Try.func157 (by kernel_rfl) rfl) (fun o _ => notOp_pays _ w.heap.size n (by simp) h0 h1 o)).mono ?_; rintro e w1 ⟨rfl, hb1⟩)
    go_ret
    exact ⟨ret_bool HF.out.symm, ((Below.refl _ _).alloc (Nat.le_refl _) _).trans (hb1.mono (by simp))⟩
  · have HF : Hid (okOps ops n = false) := Lib.hid (by simp [okOps, hlen])
    have hl : decide (ops.length ≤ 40) = false := decide_eq_false hlen
    go_enter Try.func92, Try.ntmps92
    go_wp2
    go_ret
    exact ⟨ret_bool HF.out.symm, (Below.refl _ _).alloc (Nat.le_refl _) _⟩

theorem C_rule_0 {w : World} {A : Option Addr} {n : Nat} {xs : List Rule} (h : Kd.C kRule w A n xs) (h1 : 0 < n) : ∃ ad, A = some ad ∧ w.cell? ad = some (.int .i64 (rl xs 0).next) ∧ w.cell? ⟨ad.block, ad.off + 1, none⟩ = some (.int .i64 (rl xs 0).shared) ∧ w.cell? ⟨ad.block, ad.off + 2, none⟩ = some (.bool (rl xs 0).back) := by
  obtain ⟨ad, e, r⟩ := C_rule h 0 (by omega) (by omega)
  exact ⟨ad, e, r⟩
theorem index3_0 (x y z : Option Addr) (a b c a' b' c' : Nat) (w : World) : (Instr.index 147 (.agg #[.slice x a a', .slice y b b', .slice z c c']) (.int .i64 0)).run Try.prog w = .ok (.slice x a a') w := by kernel_rfl
theorem index3_1 (x y z : Option Addr) (a b c a' b' c' : Nat) (w : World) : (Instr.index 147 (.agg #[.slice x a a', .slice y b b', .slice z c c']) (.int .i64 1)).run Try.prog w = .ok (.slice y b b') w := by kernel_rfl
theorem index3_2 (x y z : Option Addr) (a b c a' b' c' : Nat) (w : World) : (Instr.index 147 (.agg #[.slice x a a', .slice y b b', .slice z c c']) (.int .i64 2)).run Try.prog w = .ok (.slice z c c') w := by kernel_rfl
def Proto.tab (p : Proto) : Nat → List Rule
  | 0 => p.rd
  | 1 => p.wr
  | 2 => p.ev
  | 3 => p.sr
  | _ => p.sw
def okTab (t : List Rule) : Bool := t.length == 4 && !t.any badRule
def tabsTo (p : Proto) : Nat → Bool
  | 0 => true
  | k + 1 => tabsTo p k && okTab (p.tab k)
def keeps0 (t : List Rule) : Bool := (rl t 0).next == 0 && !(rl t 0).back
def okHeld (p : Proto) (h : Nat) : Bool := (rl p.rd h).next != 0 && (rl p.rd h).shared != 0 && (rl p.ev h).next == 0
def heldTo (p : Proto) : Nat → Bool
  | 0 => true
  | k + 1 => heldTo p k && okHeld p k
def validP (p : Proto) : Bool := tabsTo p 5 && (keeps0 p.sr && (keeps0 p.sw && (keeps0 p.ev && heldTo p 4)))

/-- where a protocol's tables lie in its block -/
def ProtoB (w : World) (h : Nat) (p : Proto) : Prop := ∀ k, k < 5 → ∃ A c, w.cell? ⟨h, k, none⟩ = some (.slice A (p.tab k).length c) ∧ (p.tab k).length ≤ c ∧ Kd.C kRule w A (p.tab k).length (p.tab k)
theorem ProtoB.below {w w1 : World} {h : Nat} {p : Proto} (hp : ProtoB w h p) (hb : Below w.heap.size w w1) : ProtoB w1 h p := by
  intro k hk
  obtain ⟨A, c, h1, h2, h3⟩ := hp k hk
  exact ⟨A, c, cell_old hb h1, h2, Kd.C_below h3 hb⟩

set_option maxHeartbeats 1000000 in
set_option maxRecDepth 100000 in
theorem tables (h : Nat) (w : World) : Calls Try.prog 98 #[.pointer (some ⟨h, 0, none⟩)] w fun e w' => e = .returned (.slice (some ⟨w.heap.size, 0, none⟩) 5 5) ∧ Below w.heap.size w w' ∧ ∀ k, k < 5 → w'.cell? ⟨w.heap.size, k, none⟩ = some (.pointer (some ⟨h, k, none⟩)) := by
  go_enter Try.func98, Try.ntmps98
  go_wp2
  refine start_ (n := 17) (S := fun w' => True) (ds := []) #[false, false, false, false, false, false, false, false, false, false, false, false, false, false, false, false, false] (by kernel_rfl) rfl rfl trivial (fun hHeld => ?_)
  refine pure_ (i := 0) (N := some 3) (v := ?_) (a' := ?_) #[true, false, false, false, false, false, false, false, false, false, false, false, false, false, false, false, false] rfl rfl (by kernel_rfl) (fun _ _ _ h => h) (Or.inl ⟨by rfl, ?_⟩) ?_ ?_
  rotate_left
  · intro w'
    go_simp
    with_reducible rfl
  rotate_left
  · simp only [Act.put, List.setIfInBounds_toArray, List.set_cons_zero, List.set_cons_succ, i64_w, i32_w]
    rfl
  refine pure_ (i := 1) (N := some 4) (v := ?_) (a' := ?_) #[true, true, false, false, false, false, false, false, false, false, false, false, false, false, false, false, false] rfl rfl (by kernel_rfl) (fun _ _ _ h => h) (Or.inl ⟨by rfl, ?_⟩) ?_ ?_
  rotate_left
  · intro w'
    go_simp
    with_reducible rfl
  rotate_left
  · simp only [Act.put, List.setIfInBounds_toArray, List.set_cons_zero, List.set_cons_succ, i64_w, i32_w]
    rfl
  refine pure_ (i := 2) (N := some 5) (v := ?_) (a' := ?_) #[true, true, true, false, false, false, false, false, false, false, false, false, false, false, false, false, false] rfl rfl (by kernel_rfl) (fun _ _ _ h => h) (Or.inl ⟨by rfl, ?_⟩) ?_ ?_
  rotate_left
  · intro w'
    go_simp
    with_reducible rfl
  rotate_left
  · simp only [Act.put, List.setIfInBounds_toArray, List.set_cons_zero, List.set_cons_succ, i64_w, i32_w]
    rfl
  refine pure_ (i := 3) (N := some 6) (v := ?_) (a' := ?_) #[true, true, true, true, false, false, false, false, false, false, false, false, false, false, false, false, false] rfl rfl (by kernel_rfl) (fun _ _ _ h => h) (Or.inl ⟨by rfl, ?_⟩) ?_ ?_
  rotate_left
  · intro w'
    go_simp
    with_reducible rfl
  rotate_left
  · simp only [Act.put, List.setIfInBounds_toArray, List.set_cons_zero, List.set_cons_succ, i64_w, i32_w]
    rfl
  refine pure_ (i := 4) (N := some 7) (v := ?_) (a' := ?_) #[true, true, true, true, true, false, false, false, false, false, false, false, false, false, false, false, false] rfl rfl (by kernel_rfl) (fun _ _ _ h => h) (Or.inl ⟨by rfl, ?_⟩) ?_ ?_
  rotate_left
  · intro w'
    go_simp
    with_reducible rfl
  rotate_left
  · simp only [Act.put, List.setIfInBounds_toArray, List.set_cons_zero, List.set_cons_succ, i64_w, i32_w]
    rfl
  refine pure_ (i := 5) (N := some 8) (v := ?_) (a' := ?_) #[true, true, true, true, true, true, false, false, false, false, false, false, false, false, false, false, false] rfl rfl (by kernel_rfl) (fun _ _ _ h => h) (Or.inl ⟨by rfl, ?_⟩) ?_ ?_
  rotate_left
  · intro w'
    go_simp
    with_reducible rfl
  rotate_left
  · simp only [Act.put, List.setIfInBounds_toArray, List.set_cons_zero, List.set_cons_succ, i64_w, i32_w]
    rfl
  refine pure_ (i := 6) (N := some 9) (v := ?_) (a' := ?_) #[true, true, true, true, true, true, true, false, false, false, false, false, false, false, false, false, false] rfl rfl (by kernel_rfl) (fun _ _ _ h => h) (Or.inl ⟨by rfl, ?_⟩) ?_ ?_
  rotate_left
  · intro w'
    go_simp
    with_reducible rfl
  rotate_left
  · simp only [Act.put, List.setIfInBounds_toArray, List.set_cons_zero, List.set_cons_succ, i64_w, i32_w]
    rfl
  refine pure_ (i := 7) (N := some 10) (v := ?_) (a' := ?_) #[true, true, true, true, true, true, true, true, false, false, false, false, false, false, false, false, false] rfl rfl (by kernel_rfl) (fun _ _ _ h => h) (Or.inl ⟨by rfl, ?_⟩) ?_ ?_
  rotate_left
  · intro w'
    go_simp
    with_reducible rfl
  rotate_left
  · simp only [Act.put, List.setIfInBounds_toArray, List.set_cons_zero, List.set_cons_succ, i64_w, i32_w]
    rfl
  refine pure_ (i := 8) (N := some 11) (v := ?_) (a' := ?_) #[true, true, true, true, true, true, true, true, true, false, false, false, false, false, false, false, false] rfl rfl (by kernel_rfl) (fun _ _ _ h => h) (Or.inl ⟨by rfl, ?_⟩) ?_ ?_
  rotate_left
  · intro w'
    go_simp
    with_reducible rfl
  rotate_left
  · simp only [Act.put, List.setIfInBounds_toArray, List.set_cons_zero, List.set_cons_succ, i64_w, i32_w]
    rfl
  refine pure_ (i := 9) (N := some 12) (v := ?_) (a' := ?_) #[true, true, true, true, true, true, true, true, true, true, false, false, false, false, false, false, false] rfl rfl (by kernel_rfl) (fun _ _ _ h => h) (Or.inl ⟨by rfl, ?_⟩) ?_ ?_
  rotate_left
  · intro w'
    go_simp
    with_reducible rfl
  rotate_left
  · simp only [Act.put, List.setIfInBounds_toArray, List.set_cons_zero, List.set_cons_succ, i64_w, i32_w]
    rfl
  refine pure_ (i := 10) (N := some 13) (v := ?_) (a' := ?_) #[true, true, true, true, true, true, true, true, true, true, true, false, false, false, false, false, false] rfl rfl (by kernel_rfl) (fun _ _ _ h => h) (Or.inl ⟨by rfl, ?_⟩) ?_ ?_
  rotate_left
  · intro w'
    go_simp
    with_reducible rfl
  rotate_left
  · simp only [Act.put, List.setIfInBounds_toArray, List.set_cons_zero, List.set_cons_succ, i64_w, i32_w]
    rfl
  refine pure_ (i := 11) (N := some 14) (v := ?_) (a' := ?_) #[true, true, true, true, true, true, true, true, true, true, true, true, false, false, false, false, false] rfl rfl (by kernel_rfl) (fun _ _ _ h => h) (Or.inl ⟨by rfl, ?_⟩) ?_ ?_
  rotate_left
  · intro w'
    go_simp
    with_reducible rfl
  rotate_left
  · simp only [Act.put, List.setIfInBounds_toArray, List.set_cons_zero, List.set_cons_succ, i64_w, i32_w]
    rfl
  refine pure_ (i := 12) (N := some 15) (v := ?_) (a' := ?_) #[true, true, true, true, true, true, true, true, true, true, true, true, true, false, false, false, false] rfl rfl (by kernel_rfl) (fun _ _ _ h => h) (Or.inl ⟨by rfl, ?_⟩) ?_ ?_
  rotate_left
  · intro w'
    go_simp
    with_reducible rfl
  rotate_left
  · simp only [Act.put, List.setIfInBounds_toArray, List.set_cons_zero, List.set_cons_succ, i64_w, i32_w]
    rfl
  refine pure_ (i := 13) (N := some 16) (v := ?_) (a' := ?_) #[true, true, true, true, true, true, true, true, true, true, true, true, true, true, false, false, false] rfl rfl (by kernel_rfl) (fun _ _ _ h => h) (Or.inl ⟨by rfl, ?_⟩) ?_ ?_
  rotate_left
  · intro w'
    go_simp
    with_reducible rfl
  rotate_left
  · simp only [Act.put, List.setIfInBounds_toArray, List.set_cons_zero, List.set_cons_succ, i64_w, i32_w]
    rfl
  refine pure_ (i := 14) (N := some 17) (v := ?_) (a' := ?_) #[true, true, true, true, true, true, true, true, true, true, true, true, true, true, true, false, false] rfl rfl (by kernel_rfl) (fun _ _ _ h => h) (Or.inl ⟨by rfl, ?_⟩) ?_ ?_
  rotate_left
  · intro w'
    go_simp
    with_reducible rfl
  rotate_left
  · simp only [Act.put, List.setIfInBounds_toArray, List.set_cons_zero, List.set_cons_succ, i64_w, i32_w]
    rfl
  refine one_ (i := 15) (N := some 18) #[true, true, true, true, true, true, true, true, true, true, true, true, true, true, true, true, false] rfl rfl (by kernel_rfl) (by decide) (fun K hK => ?_)
  refine value_ (w1 := ?_) (v := ?_) (by rfl) rfl ?_ ?_
  rotate_left 2
  · go_simp
    constructor
    · rfl
    · rfl
  refine hK.out _ _ trivial (fun hHeld => ?_)
  clear hK K
  refine norm_ (a' := ?_) ?_ ?_
  rotate_left
  · show Act.put _ (some 18) _ = _
    simp only [Act.put, List.setIfInBounds_toArray, List.set_cons_zero, List.set_cons_succ, i64_w, i32_w]
    rfl
  refine pure_ (i := 16) (N := some 2) (v := ?_) (a' := ?_) #[true, true, true, true, true, true, true, true, true, true, true, true, true, true, true, true, true] rfl rfl (by kernel_rfl) (fun _ _ _ h => h) (Or.inl ⟨by rfl, ?_⟩) ?_ ?_
  rotate_left
  · intro w'
    go_simp
    with_reducible rfl
  rotate_left
  · simp only [Act.put, List.setIfInBounds_toArray, List.set_cons_zero, List.set_cons_succ, i64_w, i32_w]
    rfl
  refine done_ (by kernel_rfl) ?_
  go_wp2
  go_ret
  refine ⟨rfl, ((Below.refl _ _).alloc (Nat.le_refl _) _).drew, fun k hk => ?_⟩
  have hb : ∀ (o : Array Value) t, (w.alloc (.cells o t)).heap[w.heap.size]? = some (.cells o t) := fun o t => heap_alloc_new w _
  match k, hk with
  | 0, _ => exact cell_blk (hb _ _) 0 _ rfl
  | 1, _ => exact cell_blk (hb _ _) 1 _ rfl
  | 2, _ => exact cell_blk (hb _ _) 2 _ rfl
  | 3, _ => exact cell_blk (hb _ _) 3 _ rfl
  | 4, _ => exact cell_blk (hb _ _) 4 _ rfl

theorem tabsTo_false {p : Proto} {k : Nat} (hk : k < 5) (h : okTab (p.tab k) = false) : validP p = false := by
  have : ∀ j, tabsTo p (k + 1 + j) = false := by
    intro j
    induction j with
    | zero => simp [tabsTo, h]
    | succ j ih => rw [show k + 1 + (j + 1) = (k + 1 + j) + 1 from rfl, tabsTo, ih]; rfl
  have h5 := this (4 - k)
  rw [show k + 1 + (4 - k) = 5 from by omega] at h5
  simp [validP, h5]
theorem heldTo_false {p : Proto} {k : Nat} (hk : k < 4) (h : okHeld p k = false) : heldTo p 4 = false := by
  have : ∀ j, heldTo p (k + 1 + j) = false := by
    intro j
    induction j with
    | zero => simp [heldTo, h]
    | succ j ih => rw [show k + 1 + (j + 1) = (k + 1 + j) + 1 from rfl, heldTo, ih]; rfl
  have h5 := this (3 - k)
  rwa [show k + 1 + (3 - k) = 4 from by omega] at h5
theorem tabsTo_len {p : Proto} {k : Nat} (h : tabsTo p 5 = true) (hk : k < 5) : (p.tab k).length = 4 := by
  simp only [tabsTo, Bool.and_eq_true, okTab, beq_iff_eq] at h
  match k, hk with
  | 0, _ => exact h.1.1.1.1.2.1
  | 1, _ => exact h.1.1.1.2.1
  | 2, _ => exact h.1.1.2.1
  | 3, _ => exact h.1.2.1
  | 4, _ => exact h.2.1
theorem ProtoV.box {w : World} {p : Proto} {v : Value} (h : ProtoV w p v) : ∃ cs, v = .agg cs ∧ cs.size = 5 ∧ ProtoB (w.alloc (.cells cs 50)) w.heap.size p := by
  obtain ⟨A0, c0, A1, c1, A2, c2, A3, c3, A4, c4, rfl, h0, k0, h1, k1, h2, k2, h3, k3, h4, k4⟩ := h
  refine ⟨_, rfl, rfl, fun k hk => ?_⟩
  have hb : ∀ (o : Array Value) t, (w.alloc (.cells o t)).heap[w.heap.size]? = some (.cells o t) := fun o t => heap_alloc_new w _
  have hB : ∀ o, Below w.heap.size w (w.alloc o) := fun o => (Below.refl _ _).alloc (Nat.le_refl _) o
  match k, hk with
  | 0, _ => exact ⟨A0, c0, cell_blk (hb _ _) 0 _ rfl, h0, Kd.C_below k0 (hB _)⟩
  | 1, _ => exact ⟨A1, c1, cell_blk (hb _ _) 1 _ rfl, h1, Kd.C_below k1 (hB _)⟩
  | 2, _ => exact ⟨A2, c2, cell_blk (hb _ _) 2 _ rfl, h2, Kd.C_below k2 (hB _)⟩
  | 3, _ => exact ⟨A3, c3, cell_blk (hb _ _) 3 _ rfl, h3, Kd.C_below k3 (hB _)⟩
  | 4, _ => exact ⟨A4, c4, cell_blk (hb _ _) 4 _ rfl, h4, Kd.C_below k4 (hB _)⟩

set_option maxHeartbeats 4000000 in
set_option maxRecDepth 100000 in
theorem ValidProtocol (p : Proto) (v : Value) (w : World) (hv : ProtoV w p v) : Calls Try.prog 43 #[v] w fun e w' => e = .returned (.bool (validP p)) ∧ Below w.heap.size w w' := by
  obtain ⟨cs, rfl, hcs, hb⟩ := hv.box
  have HP := Lib.hid hb
  clear hb hv hcs
  have Hb : Hid (Below w.heap.size w (w.alloc (.cells cs 50))) := Lib.hid ((Below.refl _ _).alloc (Nat.le_refl _) _)
  go_enter Try.func43, Try.ntmps43
  go_wp2_with fail
  refine (tables _ _).mono ?_
  rintro e w2 ⟨rfl, hb2, hpt⟩
  have HP2 := Lib.hid (HP.out.below hb2)
  have HPT := Lib.hid hpt
  have Hb2 := Lib.hid (below_tr Hb.out hb2)
  obtain ⟨pb, hpb⟩ : ∃ pb, (w.alloc (.cells cs 50)).heap.size = pb := ⟨_, rfl⟩
  rw [hpb] at HPT
  have e1 : w.heap.size + 1 = pb := by rw [← hpb]; simp
  simp only [hpb]
  clear hpb hpt hb2 HP e1 Hb
  go_wp2_with fail
  go_loopw [2, 4, 10] (fun r x i wr => ∃ (k : Nat), k ≤ 5 ∧ i = .int .i64 k ∧ r = .bool false ∧ Hid (tabsTo p k = true) ∧ Below w2.heap.size w2 wr) (fun _ _ i _ => 5 - (intOf i).toNat)
  case atStart => exact ⟨0, Nat.zero_le _, rfl, rfl, Lib.hid rfl, Below.refl _ _⟩
  case round =>
    obtain ⟨k, hk, rfl, rfl, HK, hB⟩ := hrel
    by_cases hlt : k < 5
    · have hp0 := cell_old hB (HPT.out k hlt)
      obtain ⟨A, c, hc0, hle, hC⟩ := HP2.out.below hB k hlt
      obtain ⟨t, ht⟩ : ∃ t, p.tab k = t := ⟨_, rfl⟩
      rw [ht] at hc0 hle hC
      have HC := Lib.hid hC
      have hmx := C_max hC
      have Ht := Lib.hid ht
      clear hC ht
      by_cases h4 : t.length = 4
      · have h41 : ((t.length : Int) == 4) = true := by simp [h4]
        have h42 : ((t.length : Int) != 4) = false := by simp [h4]
        have h43 : (t.length != 4) = false := by simp [h4]
        have H4 := Lib.hid h4
        clear h4
        cases hbad : t.any badRule with
        | true =>
          have HF : Hid (validP p = false) := Lib.hid (tabsTo_false hlt (by rw [Ht.out]; simp [okTab, hbad]))
          have Hbad := Lib.hid hbad
          clear hbad
          go_wp2_with (go_at_call 99; refine (containsFunc99 _ _ 100 _ t badRule _ HC.out (enters _ _ _ Try.func100 (by kernel_rfl) rfl) (fun r _ => badRule_pays _ r)).mono ?_; rintro e w3 ⟨rfl, hb3⟩; rw [Hbad.out])
          go_ret
          exact ⟨ret_bool HF.out.symm, below_then (below_then Hb2.out Hb2.out.size hB) (Nat.le_trans Hb2.out.size hB.size) hb3⟩
        | false =>
          have HF : Hid (tabsTo p (k + 1) = true) := Lib.hid (by simp [tabsTo, HK.out, Ht.out, okTab, hbad, H4.out])
          have Hbad := Lib.hid hbad
          clear hbad
          go_wp2_with (go_at_call 99; refine (containsFunc99 _ _ 100 _ t badRule _ HC.out (enters _ _ _ Try.func100 (by kernel_rfl) rfl) (fun r _ => badRule_pays _ r)).mono ?_; rintro e w3 ⟨rfl, hb3⟩; rw [Hbad.out])
          exact ⟨⟨k + 1, by omega, by go_num, rfl, HF, below_then hB hB.size hb3⟩, by simp [intOf]; omega⟩
      · have h41 : ((t.length : Int) == 4) = false := by rw [beq_eq_false_iff_ne]; omega
        have h42 : ((t.length : Int) != 4) = true := by rw [bne_iff_ne]; omega
        have h43 : (t.length != 4) = true := by rw [bne_iff_ne]; omega
        have HF : Hid (validP p = false) := Lib.hid (tabsTo_false hlt (by rw [Ht.out]; simp [okTab, h4]))
        clear h4
        go_wp2
        go_ret
        exact ⟨ret_bool HF.out.symm, below_then Hb2.out Hb2.out.size hB⟩
    · obtain rfl : k = 5 := by omega
      have HPw := Lib.hid (HP2.out.below hB)
      have HBw := Lib.hid (below_then Hb2.out Hb2.out.size hB)
      obtain ⟨A2, k2, d2, l2, C2⟩ := HPw.out 2 (by omega)
      obtain ⟨A3, k3, d3, l3, C3⟩ := HPw.out 3 (by omega)
      obtain ⟨A4, k4, d4, l4, C4⟩ := HPw.out 4 (by omega)
      have q2 := tabsTo_len HK.out (k := 2) (by omega)
      have q3 := tabsTo_len HK.out (k := 3) (by omega)
      have q4 := tabsTo_len HK.out (k := 4) (by omega)
      obtain ⟨a2, rfl, r20, _, r22⟩ := C_rule_0 C2 (by omega)
      obtain ⟨a3, rfl, r30, _, r32⟩ := C_rule_0 C3 (by omega)
      obtain ⟨a4, rfl, r40, _, r42⟩ := C_rule_0 C4 (by omega)
      rw [q2] at d2
      rw [q3] at d3
      rw [q4] at d4
      have D2 := Lib.hid d2
      clear q2 q3 q4 l2 l3 l4 C2 C3 C4 hB Hb2 HP2 HPT
      obtain ⟨wo, rfl⟩ : ∃ wo : World, wo = wr := ⟨_, rfl⟩
      go_wp2
      go_loop [2, 6, 33] (fun r x i => ∃ (k : Nat), k ≤ 3 ∧ i = .int .i64 k ∧ r = .bool false ∧ Hid ((0 < k → keeps0 p.sr = true) ∧ (1 < k → keeps0 p.sw = true) ∧ (2 < k → keeps0 p.ev = true))) (fun _ _ i => 3 - (intOf i).toNat)
      case atStart => exact ⟨0, Nat.zero_le _, rfl, rfl, Lib.hid ⟨fun h => absurd h (by omega), fun h => absurd h (by omega), fun h => absurd h (by omega)⟩⟩
      case round =>
        obtain ⟨k, hk, rfl, rfl, HS⟩ := hrel
        by_cases hlt : k < 3
        · have h3 : k = 0 ∨ k = 1 ∨ k = 2 := by omega
          rcases h3 with rfl | rfl | rfl
          · have ix := index3_0 (some a3) (some a4) (some a2) 4 4 4 k3 k4 k2
            obtain ⟨⟨rn, rs, rb⟩, hr⟩ : ∃ r, rl (p.tab 3) 0 = r := ⟨_, rfl⟩
            rw [hr] at r30 r32
            have Hr := Lib.hid hr
            clear hr
            by_cases hz : rn = 0
            · subst hz
              cases rb with
              | true =>
                have HF : Hid (validP p = false) := Lib.hid (by have : keeps0 p.sr = false := (by have e := Hr.out; simp only [Proto.tab] at e; simp [keeps0, e]); simp [validP, this])
                go_wp2
                go_ret
                exact ⟨ret_bool HF.out.symm, HBw.out⟩
              | false =>
                have HF : Hid (keeps0 p.sr = true) := Lib.hid (by have e := Hr.out; simp only [Proto.tab] at e; simp [keeps0, e])
                go_wp2
                exact ⟨⟨0 + 1, by omega, by go_num, rfl, Lib.hid ⟨fun _ => HF.out, fun h => absurd h (by omega), fun h => absurd h (by omega)⟩⟩, by simp [intOf]⟩
            · have b1 : (rn == 0) = false := by rw [beq_eq_false_iff_ne]; exact hz
              have b2 : (rn != 0) = true := by rw [bne_iff_ne]; exact hz
              have HF : Hid (validP p = false) := Lib.hid (by have : keeps0 p.sr = false := (by have e := Hr.out; simp only [Proto.tab] at e; simp [keeps0, e, hz]); simp [validP, this])
              clear hz
              go_wp2
              go_ret
              exact ⟨ret_bool HF.out.symm, HBw.out⟩
          · have ix := index3_1 (some a3) (some a4) (some a2) 4 4 4 k3 k4 k2
            obtain ⟨⟨rn, rs, rb⟩, hr⟩ : ∃ r, rl (p.tab 4) 0 = r := ⟨_, rfl⟩
            rw [hr] at r40 r42
            have Hr := Lib.hid hr
            clear hr
            by_cases hz : rn = 0
            · subst hz
              cases rb with
              | true =>
                have HF : Hid (validP p = false) := Lib.hid (by have : keeps0 p.sw = false := (by have e := Hr.out; simp only [Proto.tab] at e; simp [keeps0, e]); simp [validP, this])
                go_wp2
                go_ret
                exact ⟨ret_bool HF.out.symm, HBw.out⟩
              | false =>
                have HF : Hid (keeps0 p.sw = true) := Lib.hid (by have e := Hr.out; simp only [Proto.tab] at e; simp [keeps0, e])
                go_wp2
                exact ⟨⟨1 + 1, by omega, by go_num, rfl, Lib.hid ⟨fun _ => HS.out.1 (by omega), fun _ => HF.out, fun h => absurd h (by omega)⟩⟩, by simp [intOf]⟩
            · have b1 : (rn == 0) = false := by rw [beq_eq_false_iff_ne]; exact hz
              have b2 : (rn != 0) = true := by rw [bne_iff_ne]; exact hz
              have HF : Hid (validP p = false) := Lib.hid (by have : keeps0 p.sw = false := (by have e := Hr.out; simp only [Proto.tab] at e; simp [keeps0, e, hz]); simp [validP, this])
              clear hz
              go_wp2
              go_ret
              exact ⟨ret_bool HF.out.symm, HBw.out⟩
          · have ix := index3_2 (some a3) (some a4) (some a2) 4 4 4 k3 k4 k2
            obtain ⟨⟨rn, rs, rb⟩, hr⟩ : ∃ r, rl (p.tab 2) 0 = r := ⟨_, rfl⟩
            rw [hr] at r20 r22
            have Hr := Lib.hid hr
            clear hr
            by_cases hz : rn = 0
            · subst hz
              cases rb with
              | true =>
                have HF : Hid (validP p = false) := Lib.hid (by have : keeps0 p.ev = false := (by have e := Hr.out; simp only [Proto.tab] at e; simp [keeps0, e]); simp [validP, this])
                go_wp2
                go_ret
                exact ⟨ret_bool HF.out.symm, HBw.out⟩
              | false =>
                have HF : Hid (keeps0 p.ev = true) := Lib.hid (by have e := Hr.out; simp only [Proto.tab] at e; simp [keeps0, e])
                go_wp2
                exact ⟨⟨2 + 1, by omega, by go_num, rfl, Lib.hid ⟨fun _ => HS.out.1 (by omega), fun _ => HS.out.2.1 (by omega), fun _ => HF.out⟩⟩, by simp [intOf]⟩
            · have b1 : (rn == 0) = false := by rw [beq_eq_false_iff_ne]; exact hz
              have b2 : (rn != 0) = true := by rw [bne_iff_ne]; exact hz
              have HF : Hid (validP p = false) := Lib.hid (by have : keeps0 p.ev = false := (by have e := Hr.out; simp only [Proto.tab] at e; simp [keeps0, e, hz]); simp [validP, this])
              clear hz
              go_wp2
              go_ret
              exact ⟨ret_bool HF.out.symm, HBw.out⟩
        · obtain rfl : k = 3 := by omega
          have HS3 : Hid (keeps0 p.sr = true ∧ keeps0 p.sw = true ∧ keeps0 p.ev = true) := Lib.hid ⟨HS.out.1 (by omega), HS.out.2.1 (by omega), HS.out.2.2 (by omega)⟩
          clear HS r20 r22 r30 r32 r40 r42 d2 d3 d4
          obtain ⟨A0, k0, d0, l0, C0⟩ := HPw.out 0 (by omega)
          obtain ⟨A2', k2', d2', l2, C2⟩ := HPw.out 2 (by omega)
          have q0 := tabsTo_len HK.out (k := 0) (by omega)
          have q2 := tabsTo_len HK.out (k := 2) (by omega)
          rw [q0] at d0
          rw [q2] at d2'
          have CC0 := Lib.hid C0
          have CC2 := Lib.hid C2
          have Q0 := Lib.hid q0
          have Q2 := Lib.hid q2
          clear C0 C2 q0 q2 l0 l2
          go_wp2
          go_loop [2, 7, 51] (fun r x i => ∃ (k : Nat), k ≤ 4 ∧ i = .int .i64 k ∧ r = .bool false ∧ Hid (heldTo p k = true)) (fun _ _ i => 4 - (intOf i).toNat)
          case atStart => exact ⟨0, Nat.zero_le _, rfl, rfl, Lib.hid rfl⟩
          case round =>
            obtain ⟨k, hk, rfl, rfl, HH⟩ := hrel
            by_cases hlt : k < 4
            · have q0 := Q0.out
              have q2 := Q2.out
              obtain ⟨a0, e0, r00, r01, _⟩ := C_rule CC0.out (k : Int) (by omega) (by omega)
              obtain ⟨a2', e2, r20, _, _⟩ := C_rule CC2.out (k : Int) (by omega) (by omega)
              subst e0 e2
              clear q0 q2
              simp only [Int.toNat_natCast] at r00 r01 r20
              obtain ⟨n1, hn1⟩ : ∃ z, (rl (p.tab 0) (k : Int)).next = z := ⟨_, rfl⟩
              obtain ⟨s1, hs1⟩ : ∃ z, (rl (p.tab 0) (k : Int)).shared = z := ⟨_, rfl⟩
              obtain ⟨n2, hn2⟩ : ∃ z, (rl (p.tab 2) (k : Int)).next = z := ⟨_, rfl⟩
              rw [hn1] at r00
              rw [hs1] at r01
              rw [hn2] at r20
              have HO : Hid (okHeld p k = (n1 != 0 && s1 != 0 && n2 == 0)) := Lib.hid (by simp only [Proto.tab] at hn1 hs1 hn2; simp [okHeld, hn1, hs1, hn2])
              clear hn1 hs1 hn2
              by_cases z1 : n1 = 0
              · have b1 : (n1 == 0) = true := by simp [z1]
                have HF : Hid (validP p = false) := Lib.hid (by have : heldTo p 4 = false := heldTo_false hlt (by rw [HO.out]; simp [z1]); simp [validP, this])
                clear z1
                go_wp2
                go_ret
                exact ⟨ret_bool HF.out.symm, HBw.out⟩
              · have b1 : (n1 == 0) = false := by rw [beq_eq_false_iff_ne]; exact z1
                by_cases z2 : s1 = 0
                · have b2 : (s1 == 0) = true := by simp [z2]
                  have HF : Hid (validP p = false) := Lib.hid (by have : heldTo p 4 = false := heldTo_false hlt (by rw [HO.out]; simp [z2]); simp [validP, this])
                  clear z1 z2
                  go_wp2
                  go_ret
                  exact ⟨ret_bool HF.out.symm, HBw.out⟩
                · have b2 : (s1 == 0) = false := by rw [beq_eq_false_iff_ne]; exact z2
                  by_cases z3 : n2 = 0
                  · subst z3
                    have HF : Hid (heldTo p (k + 1) = true) := Lib.hid (by simp [heldTo, HH.out, HO.out, z1, z2])
                    clear z1 z2
                    go_wp2
                    exact ⟨⟨k + 1, by omega, by go_num, rfl, HF⟩, by simp [intOf]; omega⟩
                  · have b3 : (n2 == 0) = false := by rw [beq_eq_false_iff_ne]; exact z3
                    have b4 : (n2 != 0) = true := by rw [bne_iff_ne]; exact z3
                    have HF : Hid (validP p = false) := Lib.hid (by have : heldTo p 4 = false := heldTo_false hlt (by rw [HO.out]; simp [z3]); simp [validP, this])
                    clear z1 z2 z3
                    go_wp2
                    go_ret
                    exact ⟨ret_bool HF.out.symm, HBw.out⟩
            · obtain rfl : k = 4 := by omega
              have HF : Hid (validP p = true) := Lib.hid (by simp [validP, HK.out, HS3.out.1, HS3.out.2.1, HS3.out.2.2, HH.out])
              go_wp2
              go_ret
              exact ⟨ret_bool HF.out.symm, HBw.out⟩

def okCaches (p : Proto) (n : Int) : Bool := validP p && inR n 1 3
set_option maxHeartbeats 400000 in
theorem isCaches (p : Proto) (v : Value) (n : Int) (w : World) (hv : ProtoV w p v) : Calls Try.prog 87 #[v, .int .i64 n] w fun e w' => e = .returned (.bool (okCaches p n)) ∧ Below w.heap.size w w' := by
  have hv2 : ∀ o, Hid (ProtoV (w.alloc o) p v) := fun o => Lib.hid (hv.below ((Below.refl _ _).alloc (Nat.le_refl _) o))
  obtain ⟨A0, c0, A1, c1, A2, c2, A3, c3, A4, c4, rfl, _⟩ := hv
  cases h : validP p with
  | true =>
    have HF : Hid (okCaches p n = inR n 1 3) := Lib.hid (by simp [okCaches, h])
    have Hh := Lib.hid h
    clear h
    go_enter Try.func87, Try.ntmps87
    go_wp2_with fail
    refine (ValidProtocol p _ _ (hv2 _).out).mono ?_
    rintro e w1 ⟨rfl, hb1⟩
    rw [Hh.out]
    have Hb : Hid (Below w.heap.size w w1) := Lib.hid (below_tr ((Below.refl _ _).alloc (Nat.le_refl _) _) hb1)
    clear hb1
    go_wp2_with fail
    refine (inRange _ _ _ _).mono ?_
    rintro e w' ⟨rfl, rfl⟩
    go_wp2_with fail
    go_ret
    exact ⟨ret_bool HF.out.symm, Hb.out⟩
  | false =>
    have HF : Hid (okCaches p n = false) := Lib.hid (by simp [okCaches, h])
    have Hh := Lib.hid h
    clear h
    go_enter Try.func87, Try.ntmps87
    go_wp2_with fail
    refine (ValidProtocol p _ _ (hv2 _).out).mono ?_
    rintro e w1 ⟨rfl, hb1⟩
    rw [Hh.out]
    have Hb : Hid (Below w.heap.size w w1) := Lib.hid (below_tr ((Below.refl _ _).alloc (Nat.le_refl _) _) hb1)
    clear hb1
    go_wp2_with fail
    go_ret
    exact ⟨ret_bool HF.out.symm, Hb.out⟩
end Go.Proofs.Ytfeabjiccnnpcaa.Ca
