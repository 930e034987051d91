import Derived.Test.YtfeabjiccnnpcaaBa
import Derived.Test.YtfeabjiccnnpcaaWLast
import Derived.StillTailTactics
import Derived.Lib.Builder
import Derived.Lib.SmallJoins
import Derived.Deep.RegionHeld3
import Derived.Deep.DeepCutAuto
set_option linter.unusedVariables false
set_option linter.unusedSimpArgs false
namespace Go.Proofs.Ytfeabjiccnnpcaa.Ca
open Go.RowKit Go.Proofs.YtfeabjiccnnpcaaW.PrintWords Go.Proofs.YtfeabjiccnnpcaaW.PrintLast Go.Proofs.Ytfeabjiccnnpcaa.Ba

/-! the plain things -/
structure Rule where
  next : Int
  shared : Int
  back : Bool
deriving DecidableEq
structure Proto where
  rd : List Rule
  wr : List Rule
  ev : List Rule
  sr : List Rule
  sw : List Rule
deriving DecidableEq
structure Op where
  kind : Int
  cache : Int
deriving DecidableEq
structure Sys where
  cs : List Int
  fs : List Bool
  m : Bool
deriving DecidableEq
def Rule.z : Rule := ⟨0, 0, false⟩
def rl (t : List Rule) (h : Int) : Rule := t.getD h.toNat Rule.z
def Sys.become (x : Sys) (i : Nat) (h : Int) (f : Bool) : Sys := ⟨x.cs.set i h, x.fs.set i (f && (h != 0)), x.m⟩
def Sys.withM (x : Sys) (v : Bool) : Sys := ⟨x.cs, x.fs, v⟩
def Sys.c (x : Sys) (i : Nat) : Int := x.cs.getD i 0
def Sys.f (x : Sys) (i : Nat) : Bool := x.fs.getD i false
/-- one cache sees -/
def seeAt (t : List Rule) (c i : Nat) (xb : Sys × Int) : Sys × Int :=
  if i = c ∨ xb.1.c i = 0 then xb
  else if (rl t (xb.1.c i)).back = true then ((xb.1.withM (xb.1.f i)).become i (rl t (xb.1.c i)).next (xb.1.f i), xb.2 + 1)
  else (xb.1.become i (rl t (xb.1.c i)).next (xb.1.f i), xb.2)
def seeTo (t : List Rule) (c : Nat) (x : Sys) : Nat → Sys × Int
  | 0 => (x, 0)
  | i + 1 => seeAt t c i (seeTo t c x i)
def see (t : List Rule) (c : Nat) (x : Sys) : Sys × Int := seeTo t c x x.cs.length

/-! what a value reads as -/
def kRule : Kd Rule := Kd.iso (Kd.pair (Kd.int .i64) (Kd.pair (Kd.int .i64) Kd.bool)) (fun x : Rule => (x.next, x.shared, x.back))
theorem kRule_open {w : World} {x : Rule} {cs : List Value} (h : kRule.K w x cs) : cs = [.int .i64 x.next, .int .i64 x.shared, .bool x.back] := by
  obtain ⟨_, _, rfl, rfl, ⟨_, _, rfl, rfl, rfl⟩⟩ := h
  exact rfl
theorem kRule_mk (w : World) (x : Rule) : kRule.K w x [.int .i64 x.next, .int .i64 x.shared, .bool x.back] := ⟨[.int .i64 x.next], [.int .i64 x.shared, .bool x.back], rfl, rfl, ⟨[.int .i64 x.shared], [.bool x.back], rfl, rfl, rfl⟩⟩
theorem kRule_mkM (w : World) (base : Nat) (ok : Nat → Prop) (x : Rule) : kRule.M w base ok x [.int .i64 x.next, .int .i64 x.shared, .bool x.back] := ⟨[.int .i64 x.next], [.int .i64 x.shared, .bool x.back], rfl, rfl, ⟨[.int .i64 x.shared], [.bool x.back], rfl, rfl, rfl⟩⟩
def kOp : Kd Op := Kd.iso (Kd.pair (Kd.int .i64) (Kd.int .i64)) (fun x : Op => (x.kind, x.cache))
theorem kOp_open {w : World} {x : Op} {cs : List Value} (h : kOp.K w x cs) : cs = [.int .i64 x.kind, .int .i64 x.cache] := by
  obtain ⟨_, _, rfl, rfl, rfl⟩ := h
  exact rfl
theorem kOp_mk (w : World) (x : Op) : kOp.K w x [.int .i64 x.kind, .int .i64 x.cache] := ⟨[.int .i64 x.kind], [.int .i64 x.cache], rfl, rfl, rfl⟩
theorem kOp_mkM (w : World) (base : Nat) (ok : Nat → Prop) (x : Op) : kOp.M w base ok x [.int .i64 x.kind, .int .i64 x.cache] := ⟨[.int .i64 x.kind], [.int .i64 x.cache], rfl, rfl, rfl⟩

theorem C_rule {w : World} {A : Option Addr} {n : Nat} {xs : List Rule} (h : Kd.C kRule w A n xs) (i : Int) (h0 : 0 ≤ i) (h1 : i < n) : ∃ ad, A = some ad ∧ w.cell? (ad.add (i.toNat * 3)) = some (.int .i64 (rl xs i).next) ∧ w.cell? ⟨(ad.add (i.toNat * 3)).block, (ad.add (i.toNat * 3)).off + 1, none⟩ = some (.int .i64 (rl xs i).shared) ∧ w.cell? ⟨(ad.add (i.toNat * 3)).block, (ad.add (i.toNat * 3)).off + 2, none⟩ = some (.bool (rl xs i).back) := by
  obtain ⟨ad, c, e, _, hK, hc0⟩ := Kd.C_get h Rule.z i h0 h1
  have hc : ∀ j u, c[j]? = some u → w.cell? (ad.add (i.toNat * 3 + j)) = some u := hc0
  obtain rfl := kRule_open hK
  exact ⟨ad, e, hc 0 _ rfl, by rw [← add_field _ _ 1 (by omega)]; exact hc 1 _ rfl, by rw [← add_field _ _ 2 (by omega)]; exact hc 2 _ rfl⟩
theorem C_ruleN {w : World} {A : Option Addr} {n : Nat} {xs : List Rule} (h : Kd.C kRule w A n xs) (k : Nat) (hk : k < xs.length) (hn : n = xs.length) : ∃ ad, A = some ad ∧ w.cell? (ad.add (k * 3)) = some (.int .i64 xs[k].next) ∧ w.cell? ⟨(ad.add (k * 3)).block, (ad.add (k * 3)).off + 1, none⟩ = some (.int .i64 xs[k].shared) ∧ w.cell? ⟨(ad.add (k * 3)).block, (ad.add (k * 3)).off + 2, none⟩ = some (.bool xs[k].back) := by
  obtain ⟨ad, e, h0, h1, h2⟩ := C_rule h (k : Int) (by omega) (by omega)
  have e1 : rl xs (k : Int) = xs[k] := by simp [rl, hk]
  rw [e1, Int.toNat_natCast] at h0 h1 h2
  exact ⟨ad, e, h0, h1, h2⟩
def opAt (xs : List Op) (i : Nat) : Op := xs.getD i ⟨0, 0⟩
theorem C_op {w : World} {A : Option Addr} {n : Nat} {xs : List Op} (h : Kd.C kOp w A n xs) (i : Nat) (h1 : i < n) : ∃ ad, A = some ad ∧ w.cell? (ad.add (i * 2)) = some (.int .i64 (opAt xs i).kind) ∧ w.cell? ⟨(ad.add (i * 2)).block, (ad.add (i * 2)).off + 1, none⟩ = some (.int .i64 (opAt xs i).cache) := by
  obtain ⟨ad, c, e, _, hK, hc0⟩ := Kd.C_get h (⟨0, 0⟩ : Op) (i : Int) (by omega) (by omega)
  have hc : ∀ j u, c[j]? = some u → w.cell? (ad.add (i * 2 + j)) = some u := hc0
  obtain rfl := kOp_open hK
  exact ⟨ad, e, hc 0 _ rfl, by rw [← add_field _ _ 1 (by omega)]; exact hc 1 _ rfl⟩

theorem C_opN {w : World} {A : Option Addr} {n : Nat} {xs : List Op} (h : Kd.C kOp w A n xs) (k : Nat) (hk : k < xs.length) (hn : n = xs.length) : ∃ ad, A = some ad ∧ w.cell? (ad.add (k * 2)) = some (.int .i64 xs[k].kind) ∧ w.cell? ⟨(ad.add (k * 2)).block, (ad.add (k * 2)).off + 1, none⟩ = some (.int .i64 xs[k].cache) := by
  obtain ⟨ad, e, h0, h1⟩ := C_op h k (by omega)
  have e1 : opAt xs k = xs[k] := by simp [opAt, hk]
  rw [e1] at h0 h1
  exact ⟨ad, e, h0, h1⟩
/-- a protocol as a value -/
def ProtoV (w : World) (p : Proto) (v : Value) : Prop := ∃ A0 c0 A1 c1 A2 c2 A3 c3 A4 c4, v = .agg #[.slice A0 p.rd.length c0, .slice A1 p.wr.length c1, .slice A2 p.ev.length c2, .slice A3 p.sr.length c3, .slice A4 p.sw.length c4] ∧
  p.rd.length ≤ c0 ∧ Kd.C kRule w A0 p.rd.length p.rd ∧ p.wr.length ≤ c1 ∧ Kd.C kRule w A1 p.wr.length p.wr ∧ p.ev.length ≤ c2 ∧ Kd.C kRule w A2 p.ev.length p.ev ∧ p.sr.length ≤ c3 ∧ Kd.C kRule w A3 p.sr.length p.sr ∧ p.sw.length ≤ c4 ∧ Kd.C kRule w A4 p.sw.length p.sw
theorem ProtoV.below {w w1 : World} {p : Proto} {v : Value} (h : ProtoV w p v) (hb : Below w.heap.size w w1) : ProtoV w1 p v := by
  obtain ⟨A0, c0, A1, c1, A2, c2, A3, c3, A4, c4, rfl, h0, k0, h1, k1, h2, k2, h3, k3, h4, k4⟩ := h
  exact ⟨A0, c0, A1, c1, A2, c2, A3, c3, A4, c4, rfl, h0, Kd.C_below k0 hb, h1, Kd.C_below k1 hb, h2, Kd.C_below k2 hb, h3, Kd.C_below k3 hb, h4, Kd.C_below k4 hb⟩

/-! what a call may turn -/
structure Chg (S : Nat → Prop) (w w' : World) : Prop where
  os : w'.os = w.os
  tape : w'.tape = w.tape
  output : w'.output = w.output
  size : w.heap.size ≤ w'.heap.size
  block : ∀ k, k < w.heap.size → ¬ S k → w'.heap[k]? = w.heap[k]?
theorem Chg.refl (S : Nat → Prop) (w : World) : Chg S w w := ⟨rfl, rfl, rfl, Nat.le_refl _, fun _ _ _ => rfl⟩
theorem Chg.trans {S : Nat → Prop} {a b c : World} (h : Chg S a b) (k : Chg S b c) : Chg S a c :=
  ⟨k.os.trans h.os, k.tape.trans h.tape, k.output.trans h.output, Nat.le_trans h.size k.size, fun i hi hs => (k.block i (Nat.lt_of_lt_of_le hi h.size) hs).trans (h.block i hi hs)⟩
theorem Chg.mono {S T : Nat → Prop} {a b : World} (h : Chg S a b) (hs : ∀ k, S k → T k) : Chg T a b := ⟨h.os, h.tape, h.output, h.size, fun i hi ht => h.block i hi (fun hk => ht (hs i hk))⟩
theorem Chg.drewN {S : Nat → Prop} {a b : World} (h : Chg S a b) (n : Nat) : Chg S a (b.drewN n) := ⟨h.os, h.tape, h.output, h.size, h.block⟩
theorem Chg.drew {S : Nat → Prop} {a b : World} (h : Chg S a b) : Chg S a b.drew := ⟨h.os, h.tape, h.output, h.size, h.block⟩
theorem Chg.alloc {S : Nat → Prop} {a b : World} (h : Chg S a b) (o : Obj) : Chg S a (b.alloc o) :=
  ⟨h.os, h.tape, h.output, Nat.le_trans h.size (by simp), fun i hi hs => (Below.heap_alloc b o i (Nat.lt_of_lt_of_le hi h.size)).trans (h.block i hi hs)⟩
theorem Chg.setCell {S : Nat → Prop} {a b : World} (h : Chg S a b) {p : Addr} (hp : S p.block ∨ a.heap.size ≤ p.block) (u : Value) : Chg S a (b.setCell p u) :=
  ⟨by have := (Below.refl 0 b).setCell (p := p) (Nat.zero_le _) u; exact this.os.trans h.os, by have := (Below.refl 0 b).setCell (p := p) (Nat.zero_le _) u; exact this.tape.trans h.tape, by have := (Below.refl 0 b).setCell (p := p) (Nat.zero_le _) u; exact this.output.trans h.output,
   by have := (Below.refl 0 b).setCell (p := p) (Nat.zero_le _) u; exact Nat.le_trans h.size this.size,
   fun i hi hs => (Below.heap_setCell b p u i (by rintro rfl; rcases hp with hp | hp; exact hs hp; omega)).trans (h.block i hi hs)⟩
theorem Chg.ofBelow {S : Nat → Prop} {a b : World} (h : Below a.heap.size a b) : Chg S a b := ⟨h.os, h.tape, h.output, h.size, fun i hi _ => h.block i hi⟩
theorem Chg.below {S : Nat → Prop} {a b : World} (h : Chg S a b) {B : Nat} (hB : B ≤ a.heap.size) (hS : ∀ k, S k → B ≤ k) : Below B a b := ⟨h.os, h.tape, h.output, h.size, fun i hi => h.block i (by omega) (fun hs => by have := hS i hs; omega)⟩
theorem Chg.grown {S : Nat → Prop} {a b c : World} (h : Chg S a b) {row : Option Nat} (hg : b.grownBy c row) (hr : ∀ k, row = some k → S k ∨ a.heap.size ≤ k) : Chg S a c :=
  ⟨hg.os.trans h.os, hg.tape.trans h.tape, hg.output.trans h.output, Nat.le_trans h.size hg.size, fun i hi hs => (hg.block i (Nat.lt_of_lt_of_le hi h.size) (fun e => by rcases hr i e.symm with h' | h'; exact hs h'; omega)).trans (h.block i hi hs)⟩

/-! a system in memory -/
structure SysAt (w : World) (g a b n ca cb : Nat) (x : Sys) : Prop where
  blk : w.heap[g]? = some (.cells #[.slice (some ⟨a, 0, none⟩) n ca, .slice (some ⟨b, 0, none⟩) n cb, .bool x.m] 60 (0, 0))
  rc : (Kd.int .i64).R 2 w 0 (fun k => k = a) (.slice (some ⟨a, 0, none⟩) n ca) x.cs
  rf : Kd.bool.R 4 w 0 (fun k => k = b) (.slice (some ⟨b, 0, none⟩) n cb) x.fs
def own3 (g a b : Nat) (k : Nat) : Prop := k = g ∨ k = a ∨ k = b
theorem R_len {α : Type} {d : Kd α} {e : Nat} {w : World} {base : Nat} {ok : Nat → Prop} {A : Option Addr} {n c : Nat} {xs : List α} (h : d.R e w base ok (.slice A n c) xs) : xs.length = n ∧ n ≤ c ∧ d.C w A n xs := by
  obtain ⟨A', c', he, hl, hC⟩ := Kd.R_reads h
  injection he with h1 h2 h3
  subst h1; subst h2; subst h3
  exact ⟨rfl, hl, hC⟩
theorem R_blk {α : Type} {d : Kd α} {e : Nat} {w : World} {base a n c : Nat} {ok : Nat → Prop} {xs : List α} (h : d.R e w base ok (.slice (some ⟨a, 0, none⟩) n c) xs) : ∃ cells, w.heap[a]? = some (.cells cells e (0, 0)) := by
  obtain ⟨inner, ho⟩ := Kd.R_own h
  exact own_typed ho a (by simp [Value.ownBlock])
theorem SysAt.lens {w : World} {g a b n ca cb : Nat} {x : Sys} (h : SysAt w g a b n ca cb x) : x.cs.length = n ∧ x.fs.length = n := ⟨(R_len h.rc).1, (R_len h.rf).1⟩
theorem heap_lt {w : World} {k : Nat} {o : Obj} (h : w.heap[k]? = some o) : k < w.heap.size := (Array.getElem?_eq_some_iff.1 h).1
theorem SysAt.apart {w : World} {g a b n ca cb : Nat} {x : Sys} (h : SysAt w g a b n ca cb x) : g ≠ a ∧ g ≠ b ∧ a ≠ b ∧ g < w.heap.size ∧ a < w.heap.size ∧ b < w.heap.size := by
  obtain ⟨c1, h1⟩ := R_blk h.rc
  obtain ⟨c2, h2⟩ := R_blk h.rf
  have h0 := h.blk
  refine ⟨?_, ?_, ?_, heap_lt h0, heap_lt h1, heap_lt h2⟩
  · rintro rfl; rw [h0] at h1; simp at h1
  · rintro rfl; rw [h0] at h2; simp at h2
  · rintro rfl; rw [h1] at h2; simp at h2
theorem SysAt.move {w w1 : World} {g a b n ca cb : Nat} {x : Sys} (h : SysAt w g a b n ca cb x) (hm : ∀ k, own3 g a b k → w1.heap[k]? = w.heap[k]?) : SysAt w1 g a b n ca cb x :=
  ⟨(hm g (.inl rfl)).trans h.blk, Kd.R_move h.rc (fun k hk => hm k (.inr (.inl hk))), Kd.R_move h.rf (fun k hk => hm k (.inr (.inr hk)))⟩
theorem SysAt.below {w w1 : World} {g a b n ca cb : Nat} {x : Sys} (h : SysAt w g a b n ca cb x) (hb : Below w.heap.size w w1) : SysAt w1 g a b n ca cb x := by
  obtain ⟨_, _, _, h1, h2, h3⟩ := h.apart
  exact h.move (fun k hk => hb.block k (by rcases hk with rfl | rfl | rfl <;> assumption))
theorem SysAt.drewN {w : World} {g a b n ca cb : Nat} {x : Sys} (h : SysAt w g a b n ca cb x) (m : Nat) : SysAt (w.drewN m) g a b n ca cb x := h.move (fun _ _ => rfl)
theorem SysAt.drew {w : World} {g a b n ca cb : Nat} {x : Sys} (h : SysAt w g a b n ca cb x) : SysAt w.drew g a b n ca cb x := h.move (fun _ _ => rfl)
theorem cell_blk {w : World} {g : Nat} {cs : Array Value} {t : TypeId} {fr : Nat × Nat} (h : w.heap[g]? = some (.cells cs t fr)) (i : Nat) (v : Value) (hv : cs[i]? = some v) : w.cell? ⟨g, i, none⟩ = some v := by
  rw [Lib.cell_of_heap h]; exact hv
theorem SysAt.cells {w : World} {g a b n ca cb : Nat} {x : Sys} (h : SysAt w g a b n ca cb x) : w.cell? ⟨g, 0, none⟩ = some (.slice (some ⟨a, 0, none⟩) n ca) ∧ w.cell? ⟨g, 1, none⟩ = some (.slice (some ⟨b, 0, none⟩) n cb) ∧ w.cell? ⟨g, 2, none⟩ = some (.bool x.m) ∧ w.frozen? ⟨g, 2, none⟩ = false :=
  ⟨cell_blk h.blk 0 _ rfl, cell_blk h.blk 1 _ rfl, cell_blk h.blk 2 _ rfl, Lib.frozen_of_heap h.blk 2⟩
theorem SysAt.cAt {w : World} {g a b n ca cb : Nat} {x : Sys} (h : SysAt w g a b n ca cb x) (i : Int) (h0 : 0 ≤ i) (h1 : i < n) : w.cell? ⟨a, i.toNat, none⟩ = some (.int .i64 (x.c i.toNat)) ∧ w.frozen? ⟨a, i.toNat, none⟩ = false := by
  have := Kd.R_celln (0 : Int) h.rc i h0 h1
  exact ⟨this.1, this.2⟩
theorem SysAt.fAt {w : World} {g a b n ca cb : Nat} {x : Sys} (h : SysAt w g a b n ca cb x) (i : Int) (h0 : 0 ≤ i) (h1 : i < n) : w.cell? ⟨b, i.toNat, none⟩ = some (.bool (x.f i.toNat)) ∧ w.frozen? ⟨b, i.toNat, none⟩ = false := by
  have := Kd.R_celln false h.rf i h0 h1
  exact ⟨this.1, this.2⟩
theorem SysAt.setM {w : World} {g a b n ca cb : Nat} {x : Sys} (h : SysAt w g a b n ca cb x) (v : Bool) : SysAt (w.setCell ⟨g, 2, none⟩ (.bool v)) g a b n ca cb (x.withM v) := by
  obtain ⟨h1, h2, h3, h4, h5, h6⟩ := h.apart
  refine ⟨?_, Kd.R_far h.rc (fun k hk => by subst hk; exact fun e => h1 e.symm) _, Kd.R_far h.rf (fun k hk => by subst hk; exact fun e => h2 e.symm) _⟩
  rw [Joins.block_setCell h.blk]
  rfl
theorem SysAt.become {w : World} {g a b n ca cb : Nat} {x : Sys} (h : SysAt w g a b n ca cb x) (i : Int) (v : Int) (f : Bool) (f' : Bool) (hf : f' = (f && (v != 0))) : SysAt ((w.setCell ⟨a, i.toNat, none⟩ (.int .i64 v)).setCell ⟨b, i.toNat, none⟩ (.bool f')) g a b n ca cb (x.become i.toNat v f) := by
  obtain ⟨h1, h2, h3, h4, h5, h6⟩ := h.apart
  subst hf
  refine ⟨?_, ?_, ?_⟩
  · rw [Below.heap_setCell _ _ _ _ h2, Below.heap_setCell _ _ _ _ h1]; exact h.blk
  · exact Kd.R_far (Kd.R_putg h.rc i v).1 (fun k hk => by subst hk; exact h3) _
  · have := Kd.R_far h.rf (p := ⟨a, i.toNat, none⟩) (fun k hk => by subst hk; exact fun e => h3 e.symm) (.int .i64 v)
    exact (Kd.R_putg this i _).1
end Go.Proofs.Ytfeabjiccnnpcaa.Ca
