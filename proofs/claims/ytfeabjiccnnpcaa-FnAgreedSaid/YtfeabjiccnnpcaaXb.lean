import Derived.Test.YtfeabjiccnnpcaaXa
set_option linter.unusedVariables false
set_option linter.unusedSimpArgs false
namespace Go.Proofs.Ytfeabjiccnnpcaa.Ca
open Go.RowKit Go.Proofs.YtfeabjiccnnpcaaW.PrintWords Go.Proofs.YtfeabjiccnnpcaaW.PrintLast Go.Proofs.Ytfeabjiccnnpcaa.Ba Go.Proofs.Ytfeabjiccnnpcaa.Bfs Go.Proofs.Ytfeabjiccnnpcaa.Mp

theorem ProtoV.tabsX {w : World} {p : Proto} {v : Value} (h : ProtoV w p v) : ∃ (AA : Nat → Option Addr) (cc : Nat → Nat), v = .agg #[.slice (AA 0) (p.tab 0).length (cc 0), .slice (AA 1) (p.tab 1).length (cc 1), .slice (AA 2) (p.tab 2).length (cc 2), .slice (AA 3) (p.tab 3).length (cc 3), .slice (AA 4) (p.tab 4).length (cc 4)] ∧ ∀ k, k < 5 → (p.tab k).length ≤ cc k ∧ Kd.C kRule w (AA k) (p.tab k).length (p.tab k) := by
  obtain ⟨A0, c0, A1, c1, A2, c2, A3, c3, A4, c4, rfl, h0, k0, h1, k1, h2, k2, h3, k3, h4, k4⟩ := h
  refine ⟨fun k => match k with | 0 => A0 | 1 => A1 | 2 => A2 | 3 => A3 | _ => A4, fun k => match k with | 0 => c0 | 1 => c1 | 2 => c2 | 3 => c3 | _ => c4, rfl, fun k hk => ?_⟩
  match k, hk with
  | 0, _ => exact ⟨h0, k0⟩
  | 1, _ => exact ⟨h1, k1⟩
  | 2, _ => exact ⟨h2, k2⟩
  | 3, _ => exact ⟨h3, k3⟩
  | 4, _ => exact ⟨h4, k4⟩
theorem R_raise {α : Type} {enc : α → Value} {h1 : ∀ x, (enc x).oneCell' = true} {e : Nat} {w : World} {b base a n c : Nat} {ok ok' : Nat → Prop} {xs : List α} (h : (Kd.scalar enc h1).R e w b ok (.slice (some ⟨a, 0, none⟩) n c) xs) (hb : base ≤ a) (hok : ok' a) : (Kd.scalar enc h1).R e w base ok' (.slice (some ⟨a, 0, none⟩) n c) xs := by
  obtain ⟨hl, ho⟩ := Kd.own_of_R h
  refine Kd.R_of_own ⟨hl, ?_⟩ (fun k hk => ?_)
  · rcases ho with ⟨he, _⟩ | ⟨g, cap, cur, he, hg, r⟩
    · cases he
    · refine .inr ⟨g, cap, cur, he, ?_, r⟩
      injection he with he; injection he with he; injection he with he
      omega
  · have : k = a := by simpa [Value.ownBlock] using hk.symm
    exact this ▸ hok
theorem MapV.over {w w1 : World} {P : Program} {k mb n e' : Nat} {f : Lit → Option Value} {u : Value} (h : MapV w P k mb n f) (hty : ∀ k, u.ownBlock = some k → ∃ cells, w.heap[k]? = some (.cells cells e' (0, 0))) (hg : w.grownBy w1 u.ownBlock) : MapV w1 P k mb n f :=
  h.kept hg (fun he => by
    obtain ⟨cells, hc⟩ := hty mb he.symm
    exact ne_map (isMapB h) hc rfl)
theorem box_over {w w1 : World} {G : Nat} {o : Obj} {u : Value} (h : w.heap[G]? = some o) (hne : some G ≠ u.ownBlock) (hg : w.grownBy w1 u.ownBlock) : w1.heap[G]? = some o := (hg.block G (heap_lt h) hne).trans h

theorem SysAt.map {w w1 : World} {g a b n ca cb mb : Nat} {x : Sys} (h : SysAt w g a b n ca cb x) (hm : IsMapB w mb) (hg : w.grownBy w1 (some mb)) : SysAt w1 g a b n ca cb x := by
  obtain ⟨_, h1⟩ := R_blk h.rc
  obtain ⟨_, h2⟩ := R_blk h.rf
  refine h.move (fun q hq => ?_)
  rcases hq with rfl | rfl | rfl
  · exact hg.block _ (heap_lt h.blk) (fun e => ne_map hm h.blk (by injection e))
  · exact hg.block _ (heap_lt h1) (fun e => ne_map hm h1 (by injection e))
  · exact hg.block _ (heap_lt h2) (fun e => ne_map hm h2 (by injection e))
/-- a node is taken off the queue; its system goes to the list -/
theorem XS.pop {w W w1 : World} {n mb i G : Nat} {st : BS Sys Op} {vq vq' vs v1 vf : Value} {now : Sys × List Op} {cs : List Value} (h : XS w W n mb i st vq vs vf) (hN : NowAt w W G now cs) (hat : st.1[i]? = some now)
    (hq' : kRea.Q 205 W w.heap.size (fun _ => True) vq' (st.1.drop (i + 1))) (hR : kSys.R 60 w1 w.heap.size (fun _ => True) v1 ((st.1.take i).map Prod.fst ++ [now.1])) (hB : Below w.heap.size w w1) (hg : W.grownBy w1 vs.ownBlock) (hGs : some G ≠ vs.ownBlock) :
    XS w w1 n mb (i + 1) st vq' v1 vf ∧ NowAt w w1 G now cs := by
  have ty := Kd.R_typed h.s
  obtain ⟨f, hm, hs⟩ := h.m
  have hl := (List.getElem?_eq_some_iff.1 hat).1
  have ht : (st.1.take (i + 1)).map Prod.fst = (st.1.take i).map Prod.fst ++ [now.1] := by
    rw [List.take_add_one, hat]; simp
  refine ⟨⟨hB, Kd.Q_over' hq' ty (by decide) hg, by rw [ht]; exact hR, ⟨f, MapV.over hm ty hg, hs⟩, FlawV.over h.f ty (by decide) hg, h.mb⟩, M_over' hN.m ty (by decide) hg, box_over hN.box hGs hg⟩

/-- a new system: its text goes into the map, it goes to the queue -/
theorem XS.push {w W1 W2 W3 : World} {n mb i G : Nat} {st : BS Sys Op} {vq vs v1 vf : Value} {now : Sys × List Op} {cs : List Value} {y : Sys × List Op} {f : Lit → Option Value} (h : XS w W1 n mb i st vq vs vf) (hN : NowAt w W1 G now cs) (hi : i ≤ st.1.length) (hy : y.1.Ok n)
    (hs : SeenF n (st.1.map Prod.fst) f) (hm2 : MapV W2 Try.prog 9 mb (st.1.length + 1) (upd f (.string (keyS y.1)) (.bool true))) (hg12 : W1.grownBy W2 (some mb)) (him : IsMapB W1 mb)
    (hQ : kRea.Q 205 W3 w.heap.size (fun _ => True) v1 (st.1.drop i ++ [y])) (hB : Below w.heap.size w W3) (hg23 : W2.grownBy W3 vq.ownBlock) (hat : v1.ownBlock = vq.ownBlock ∨ ∃ b, v1.ownBlock = some b ∧ W2.heap.size ≤ b) (hGq : some G ≠ vq.ownBlock) :
    XS w W3 n mb i (st.1 ++ [y], st.2) v1 vs vf ∧ NowAt w W3 G now cs ∧ some G ≠ v1.ownBlock := by
  have hq2 := Q_map h.q him hg12
  have ty := Kd.Q_typed hq2
  have hGl := heap_lt hN.box
  have hGm : G ≠ mb := ne_map him hN.box
  have hG2 : W2.heap[G]? = some (.cells cs.toArray 205 (0, 0)) := (hg12.block G hGl (fun e => hGm (by injection e))).trans hN.box
  refine ⟨⟨hB, ?_, ?_, ⟨upd f (.string (keyS y.1)) (.bool true), ?_, ?_⟩, FlawV.over (h.f.map him hg12) ty (by decide) hg23, h.mb⟩, ⟨M_over' (M_map hN.m him hg12) ty (by decide) hg23, box_over hG2 hGq hg23⟩, ?_⟩
  · simp only []
    rw [List.drop_append_of_le_length hi]
    exact hQ
  · simp only []
    rw [List.take_append_of_le_length hi]
    exact Kd.R_over' (R_map h.s him hg12) ty (by decide) hg23
  · simp only [List.length_append, List.length_singleton]
    exact MapV.over hm2 ty hg23
  · simp only [List.map_append, List.map_cons, List.map_nil]
    exact hs.snoc y.1 hy
  · rcases hat with e | ⟨b, e, hb⟩
    · rw [e]; exact hGq
    · rw [e]
      intro h2; injection h2 with h2
      have := heap_lt hG2
      omega
/-- the first flaw -/
theorem XS.flaw {w W : World} {n mb i : Nat} {st : BS Sys Op} {vq vs vf vo : Value} {f : List Op} (h : XS w W n mb i st vq vs vf) (hf : f ≠ []) (ho : kOp.R 72 W w.heap.size (fun _ => True) vo f) : XS w W n mb i (st.1, some f) vq vs vo :=
  ⟨h.below, h.q, h.s, h.m, ⟨hf, ho⟩, h.mb⟩
end Go.Proofs.Ytfeabjiccnnpcaa.Ca
