import Derived.Test.YtfeabjiccnnpcaaPf
import Derived.Test.YtfeabjiccnnpcaaMa
import Derived.Test.YtfeabjiccnnpcaaWQPut
set_option linter.unusedVariables false
set_option linter.unusedSimpArgs false
namespace Go.Proofs.Ytfeabjiccnnpcaa.Ca
open Go.RowKit Go.Proofs.YtfeabjiccnnpcaaW.PrintWords Go.Proofs.YtfeabjiccnnpcaaW.PrintLast Go.Proofs.Ytfeabjiccnnpcaa.Ba Go.Proofs.Ytfeabjiccnnpcaa.Bfs Go.Proofs.Ytfeabjiccnnpcaa.Mp

def kSys : Kd Sys := Kd.iso (Kd.pair (Kd.slice 2 (Kd.int .i64)) (Kd.pair (Kd.slice 4 Kd.bool) Kd.bool)) (fun x : Sys => (x.cs, x.fs, x.m))
def kRea : Kd (Sys × List Op) := Kd.pair kSys (Kd.slice 72 kOp)
theorem kSys_mkM {w : World} {base : Nat} {ok : Nat → Prop} {x : Sys} {v1 v2 : Value} (h1 : (Kd.int .i64).R 2 w base ok v1 x.cs) (h2 : Kd.bool.R 4 w base ok v2 x.fs) : kSys.M w base ok x [v1, v2, .bool x.m] :=
  ⟨[v1], [v2, .bool x.m], rfl, ⟨v1, rfl, h1⟩, [v2], [.bool x.m], rfl, ⟨v2, rfl, h2⟩, rfl⟩
theorem kSys_openM {w : World} {base : Nat} {ok : Nat → Prop} {x : Sys} {cs : List Value} (h : kSys.M w base ok x cs) : ∃ v1 v2, cs = [v1, v2, .bool x.m] ∧ (Kd.int .i64).R 2 w base ok v1 x.cs ∧ Kd.bool.R 4 w base ok v2 x.fs := by
  obtain ⟨_, _, rfl, ⟨v1, rfl, h1⟩, _, _, rfl, ⟨v2, rfl, h2⟩, h3⟩ := h
  have h3' : _ = [Value.bool x.m] := h3
  subst h3'
  exact ⟨v1, v2, rfl, h1, h2⟩
theorem kSys_openK {w : World} {x : Sys} {cs : List Value} (h : kSys.K w x cs) : ∃ A c B d, cs = [.slice A x.cs.length c, .slice B x.fs.length d, .bool x.m] ∧ x.cs.length ≤ c ∧ (Kd.int .i64).C w A x.cs.length x.cs ∧ x.fs.length ≤ d ∧ Kd.bool.C w B x.fs.length x.fs := by
  obtain ⟨_, _, rfl, ⟨A, c, rfl, l1, h1⟩, _, _, rfl, ⟨B, d, rfl, l2, h2⟩, h3⟩ := h
  have h3' : _ = [Value.bool x.m] := h3
  subst h3'
  exact ⟨A, c, B, d, rfl, l1, h1, l2, h2⟩
theorem kRea_mkM {w : World} {base : Nat} {ok : Nat → Prop} {q : Sys × List Op} {cs : List Value} {v : Value} (h1 : kSys.M w base ok q.1 cs) (h2 : kOp.R 72 w base ok v q.2) : kRea.M w base ok q (cs ++ [v]) := ⟨cs, [v], rfl, h1, v, rfl, h2⟩
theorem kRea_openM {w : World} {base : Nat} {ok : Nat → Prop} {q : Sys × List Op} {cs : List Value} (h : kRea.M w base ok q cs) : ∃ v1 v2 v3, cs = [v1, v2, .bool q.1.m, v3] ∧ (Kd.int .i64).R 2 w base ok v1 q.1.cs ∧ Kd.bool.R 4 w base ok v2 q.1.fs ∧ kOp.R 72 w base ok v3 q.2 := by
  obtain ⟨_, _, rfl, h1, v3, rfl, h3⟩ := h
  obtain ⟨v1, v2, rfl, h4, h5⟩ := kSys_openM h1
  exact ⟨v1, v2, v3, rfl, h4, h5, h3⟩
theorem kRea_sz : kRea.sz = 4 := rfl
theorem kSys_sz : kSys.sz = 3 := rfl
theorem kRea_E : kRea.E = [2, 4, 72] := rfl
theorem kSys_E : kSys.E = [2, 4] := rfl
theorem info205 : (Try.prog.info? 205).map (fun i => (i.zero, i.size, i.bytes)) = some (some (.agg #[.slice none 0 0, .slice none 0 0, .bool false, .slice none 0 0]), 4, 80) := by kernel_rfl
theorem info60 : (Try.prog.info? 60).map (fun i => (i.zero, i.size, i.bytes)) = some (some (.agg #[.slice none 0 0, .slice none 0 0, .bool false]), 3, 56) := by kernel_rfl

/-! another row, or the map, has been written -/
section
variable {α : Type} {d : Kd α} {e e' base mb : Nat} {w w1 W : World} {ok : Nat → Prop} {v u : Value} {xs : List α} {x : α} {cs : List Value}
def IsMapB (w : World) (mb : Nat) : Prop := ∃ es c, w.heap[mb]? = some (.map es c)
theorem isMapB {P : Program} {k n : Nat} {f : Lit → Option Value} (h : MapV w P k mb n f) : IsMapB w mb := by
  obtain ⟨D, ⟨es, clock, hh, _⟩, _⟩ := h
  exact ⟨es, clock, hh⟩
theorem ne_map {cells : Array Value} {t : Nat} {k : Nat} (hm : IsMapB w mb) (h : w.heap[k]? = some (.cells cells t (0, 0))) : k ≠ mb := by
  rintro rfl
  obtain ⟨es, c, hc⟩ := hm
  rw [hc] at h; cases h
theorem R_map (h : d.R e w base ok v xs) (hm : IsMapB w mb) (hg : w.grownBy w1 (some mb)) : d.R e w1 base ok v xs :=
  Kd.R_mono (Kd.R_move (Kd.R_bound h) (fun k hk => hg.block k hk.2.2.1 (fun he => by
    obtain ⟨_, _, _, q, _, cells, hc⟩ := hk
    injection he with he
    exact ne_map hm hc he))) (fun _ hk => hk.1)
theorem Q_map (h : d.Q e w base ok v xs) (hm : IsMapB w mb) (hg : w.grownBy w1 (some mb)) : d.Q e w1 base ok v xs :=
  Kd.Q_mono (Kd.Q_move (Kd.Q_bound h) (fun k hk => hg.block k hk.2.2.1 (fun he => by
    obtain ⟨_, _, _, q, _, cells, hc⟩ := hk
    injection he with he
    exact ne_map hm hc he))) (fun _ hk => hk.1)
theorem M_map (h : d.M w base ok x cs) (hm : IsMapB w mb) (hg : w.grownBy w1 (some mb)) : d.M w1 base ok x cs :=
  d.M_mono (fun _ hk => hk.1) (d.M_move (fun k hk => hg.block k hk.2.2.1 (fun he => by
    obtain ⟨_, _, _, q, _, cells, hc⟩ := hk
    injection he with he
    exact ne_map hm hc he)) (d.M_bound h))
theorem M_over' (h : d.M w base ok x cs) (hty : ∀ k, v.ownBlock = some k → ∃ cells, w.heap[k]? = some (.cells cells e' (0, 0))) (ht : ∀ q, q ∈ d.E → q ≠ e') (hg : w.grownBy w1 v.ownBlock) : d.M w1 base ok x cs :=
  d.M_mono (fun _ hk => hk.1) (d.M_move (fun k hk => hg.block k hk.2.2.1 (fun he => by
    obtain ⟨_, _, _, q, hq, cells, hc⟩ := hk
    obtain ⟨cells', hc'⟩ := hty k he.symm
    rw [hc] at hc'
    injection hc' with hc'
    injection hc' with _ hc'
    exact ht q hq hc')) (d.M_bound h))
theorem M_apart' (h : d.M w base ok x cs) (hty : ∀ k, v.ownBlock = some k → ∃ cells, w.heap[k]? = some (.cells cells e' (0, 0))) (ht : ∀ q, q ∈ d.E → q ≠ e') : d.M w base (fun k => ok k ∧ some k ≠ v.ownBlock) x cs :=
  d.M_mono (fun k hk => ⟨hk.1, fun he => by
    obtain ⟨_, _, _, q, hq, cells, hc⟩ := hk
    obtain ⟨cells', hc'⟩ := hty k he.symm
    rw [hc] at hc'
    injection hc' with hc'
    injection hc' with _ hc'
    exact ht q hq hc'⟩) (d.M_bound h)
end
/-- the flaw that has been found, or nil -/
def FlawV (w : World) (base : Nat) (v : Value) : Option (List Op) → Prop
  | none => v = .slice none 0 0
  | some f => f ≠ [] ∧ kOp.R 72 w base (fun _ => True) v f
theorem FlawV.below {w w1 : World} {base : Nat} {v : Value} {o : Option (List Op)} (h : FlawV w base v o) (hb : Below w.heap.size w w1) : FlawV w1 base v o := by
  cases o with
  | none => exact h
  | some f => exact ⟨h.1, Kd.R_below h.2 hb⟩
theorem FlawV.map {w w1 : World} {base mb : Nat} {v : Value} {o : Option (List Op)} (h : FlawV w base v o) (hm : IsMapB w mb) (hg : w.grownBy w1 (some mb)) : FlawV w1 base v o := by
  cases o with
  | none => exact h
  | some f => exact ⟨h.1, R_map h.2 hm hg⟩
theorem FlawV.over {w w1 : World} {base e' : Nat} {v u : Value} {o : Option (List Op)} (h : FlawV w base v o) (hty : ∀ k, u.ownBlock = some k → ∃ cells, w.heap[k]? = some (.cells cells e' (0, 0))) (he : 72 ≠ e') (hg : w.grownBy w1 u.ownBlock) : FlawV w1 base v o := by
  cases o with
  | none => exact h
  | some f => exact ⟨h.1, Kd.R_over' h.2 hty (by simp [kOp, Kd.iso, Kd.pair, Kd.int, Kd.scalar]; exact he) hg⟩
/-- what the map of seen texts tells -/
def SeenF (n : Nat) (l : List Sys) (f : Lit → Option Value) : Prop := ∀ x : Sys, x.Ok n → f (.string (keyS x)) = if x ∈ l then some (.bool true) else none
theorem SeenF.snoc {n : Nat} {l : List Sys} {f : Lit → Option Value} (h : SeenF n l f) (y : Sys) (hy : y.Ok n) : SeenF n (l ++ [y]) (upd f (.string (keyS y)) (.bool true)) := by
  intro x hx
  by_cases e : x = y
  · subst e; rw [upd_same]; simp
  · rw [upd_ne _ _ (fun h2 => e (key_inj hx hy (by injection h2)))]
    rw [h x hx]
    simp [e]
/-- the search's state in memory: i nodes have been taken off the queue -/
structure XS (w wr : World) (n mb i : Nat) (st : BS Sys Op) (vq vs vf : Value) : Prop where
  below : Below w.heap.size w wr
  q : kRea.Q 205 wr w.heap.size (fun _ => True) vq (st.1.drop i)
  s : kSys.R 60 wr w.heap.size (fun _ => True) vs ((st.1.take i).map Prod.fst)
  m : ∃ f, MapV wr Try.prog 9 mb st.1.length f ∧ SeenF n (st.1.map Prod.fst) f
  f : FlawV wr w.heap.size vf st.2
  mb : w.heap.size ≤ mb
theorem XS.after {w wr w1 : World} {n mb i : Nat} {st : BS Sys Op} {vq vs vf : Value} (h : XS w wr n mb i st vq vs vf) (hb : Below wr.heap.size wr w1) : XS w w1 n mb i st vq vs vf := by
  obtain ⟨f, hm, hs⟩ := h.m
  exact ⟨h.below.trans (hb.mono h.below.size), Kd.Q_below h.q hb, Kd.R_below h.s hb, ⟨f, hm.below hb, hs⟩, h.f.below hb, h.mb⟩
/-- a node that has been taken off, in a box -/
structure NowAt (w wr : World) (G : Nat) (now : Sys × List Op) (cs : List Value) : Prop where
  m : kRea.M wr w.heap.size (fun _ => True) now cs
  box : wr.heap[G]? = some (.cells cs.toArray 205 (0, 0))
theorem NowAt.after {w wr w1 : World} {G : Nat} {now : Sys × List Op} {cs : List Value} (h : NowAt w wr G now cs) (hb : Below wr.heap.size wr w1) : NowAt w w1 G now cs := ⟨Kd.M_below h.m hb, (hb.block G (heap_lt h.box)).trans h.box⟩
/-- what the box holds -/
theorem NowAt.open {w wr : World} {G n : Nat} {now : Sys × List Op} {cs : List Value} (h : NowAt w wr G now cs) (hx : now.1.Ok n) : ∃ A c B d O l, cs = [.slice A n c, .slice B n d, .bool now.1.m, .slice O now.2.length l] ∧ (Kd.int .i64).C wr A n now.1.cs ∧ Kd.bool.C wr B n now.1.fs ∧ kOp.C wr O now.2.length now.2 := by
  obtain ⟨v1, v2, v3, rfl, h1, h2, h3⟩ := kRea_openM h.m
  obtain ⟨A, c, rfl, _, e1⟩ := Kd.R_reads h1
  obtain ⟨B, d, rfl, _, e2⟩ := Kd.R_reads h2
  obtain ⟨O, l, rfl, _, e3⟩ := Kd.R_reads h3
  rw [hx.lc] at e1 ⊢
  rw [hx.lf] at e2 ⊢
  exact ⟨A, c, B, d, O, l, rfl, e1, e2, e3⟩
end Go.Proofs.Ytfeabjiccnnpcaa.Ca
