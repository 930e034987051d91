import Derived.Test.YtfeabjiccnnpcaaCf
import Derived.BigRegion
import Derived.Laws.MakeOwn
set_option linter.unusedVariables false
set_option linter.unusedSimpArgs false
namespace Go.Proofs.Ytfeabjiccnnpcaa.Ca
open Go.RowKit Go.Proofs.YtfeabjiccnnpcaaW.PrintWords Go.Proofs.YtfeabjiccnnpcaaW.PrintLast Go.Proofs.Ytfeabjiccnnpcaa.Ba

theorem step (g a b n ca cb : Nat) (x : Sys) (p : Proto) (v : Value) (o : Op) (w : World) (hS : SysAt w g a b n ca cb x) (hn0 : 0 < n) (hn : n ≤ 3) (hv : ∀ w1, Chg (own3 g a b) w w1 → ProtoV w1 p v)
    (h0 : 0 ≤ o.cache) (h1 : o.cache < n) (hcs : ∀ j, j < n → 0 ≤ x.c j ∧ x.c j ≤ 3) (ht : tabsTo p 5 = true) (hk : 0 ≤ o.kind ∧ o.kind ≤ 2) :
    Calls Try.prog 94 #[.pointer (some ⟨g, 0, none⟩), v, .agg #[.int .i64 o.kind, .int .i64 o.cache]] w fun e w' => e = .returned (.tuple #[.bool (stepS p x o).2.1, .bool (stepS p x o).2.2.1, .int .i64 (stepS p x o).2.2.2]) ∧ SysAt w' g a b n ca cb (stepS p x o).1 ∧ Chg (own3 g a b) w w' := by
  have hk3 : o.kind = 0 ∨ o.kind = 1 ∨ o.kind = 2 := by omega
  rcases hk3 with hk | hk | hk
  · by_cases hne : x.c o.cache.toNat = 0
    · exact step_miss g a b n ca cb x p v o w hS hn0 hn hv h0 h1 hcs ht hk hne
    · exact step_hit g a b n ca cb x p v o w hS hn0 hn hv h0 h1 hcs ht hk hne
  · by_cases hne : x.c o.cache.toNat = 0
    · exact step_write_see0 g a b n ca cb x p v o w hS hn0 hn hv h0 h1 hcs ht hk hne
    · by_cases hne1 : x.c o.cache.toNat = 1
      · exact step_write_see1 g a b n ca cb x p v o w hS hn0 hn hv h0 h1 hcs ht hk hne1
      · exact step_write_own g a b n ca cb x p v o w hS hn0 hn hv h0 h1 hcs ht hk (by rintro (h | h) <;> contradiction)
  · exact step_evict g a b n ca cb x p v o w hS hn0 hn hv h0 h1 hcs ht hk

def first (n : Nat) : Sys := ⟨List.replicate n 0, List.replicate n false, true⟩
theorem info2 : (Try.prog.info? 2).map (fun i => (i.zero, i.size, i.bytes)) = some (some (.int .i64 0), 1, 8) := by kernel_rfl
theorem info4 : (Try.prog.info? 4).map (fun i => (i.zero, i.size, i.bytes)) = some (some (.bool false), 1, 1) := by kernel_rfl

/-- a system as a value -/
def SysV (w : World) (x : Sys) (v : Value) : Prop := ∃ A c B d, v = .agg #[.slice A x.cs.length c, .slice B x.fs.length d, .bool x.m] ∧ x.cs.length ≤ c ∧ Kd.C (Kd.int .i64) w A x.cs.length x.cs ∧ x.fs.length ≤ d ∧ Kd.C Kd.bool w B x.fs.length x.fs
theorem make2 (n : Nat) (hn : n ≤ 3) : ∀ W : World, (Instr.makeSlice 38 (.int .i64 (n : Int)) (.int .i64 (n : Int))).run Try.prog W = .ok (.slice (some ⟨W.heap.size, 0, none⟩) n n) (W.alloc (.cells (madeCells #[.int .i64 0] n) 2)) :=
  fun W => run_make_row' 38 2 (.int .i64 0) 8 Try.underlying38 info2 rfl .i64 .i64 n (by omega) (by omega) W
theorem make4 (n : Nat) (hn : n ≤ 3) : ∀ W : World, (Instr.makeSlice 58 (.int .i64 (n : Int)) (.int .i64 (n : Int))).run Try.prog W = .ok (.slice (some ⟨W.heap.size, 0, none⟩) n n) (W.alloc (.cells (madeCells #[.bool false] n) 4)) :=
  fun W => run_make_row' 58 4 (.bool false) 1 Try.underlying58 info4 rfl .i64 .i64 n (by omega) (by omega) W

theorem R_mk {α : Type} (enc : α → Value) (h1 : ∀ x, (enc x).oneCell' = true) (z : α) (e n B : Nat) (W : World) (hB : B ≤ W.heap.size) (hn : n ≤ 1000) :
    (Kd.scalar enc h1).R e (W.alloc (.cells (madeCells #[enc z] n) e)) B (fun k => k = W.heap.size) (.slice (some ⟨W.heap.size, 0, none⟩) n n) (List.replicate n z) := by
  refine Kd.R_of_own ?_ (fun k hk => by simpa [Value.ownBlock] using hk.symm)
  have h := World.ownsRow_lit (base := B) (e := e) (size := 1) W (madeCells #[enc z] n) n hB (by simp only [maxLen]; omega) (by simp [size_madeCells])
  have hl : (madeCells #[enc z] n).toList = encs enc (List.replicate n z) := by
    apply List.ext_getElem
    · simp [encs, madeCells]
    · intro i h1 h2
      simp [encs, madeCells, Nat.mod_one]
  rw [hl] at h
  simpa using h

theorem R_put_off {α : Type} {d : Kd α} {e : Nat} {w w1 : World} {base : Nat} {ok : Nat → Prop} {v : Value} {xs : List α} (h : d.R e w base ok v xs) (hb : Below w.heap.size w w1) : d.R e w1 base ok v xs := Kd.R_below h hb

set_option maxHeartbeats 1000000 in
set_option maxRecDepth 100000 in
theorem firstSystem (n : Nat) (w : World) (h0 : 0 < n) (hn : n ≤ 3) : Calls Try.prog 93 #[.int .i64 n] w fun e w' => ∃ a b, e = .returned (.agg #[.slice (some ⟨a, 0, none⟩) n n, .slice (some ⟨b, 0, none⟩) n n, .bool true]) ∧
    (Kd.int .i64).R 2 w' w.heap.size (fun k => k = a) (.slice (some ⟨a, 0, none⟩) n n) (first n).cs ∧ Kd.bool.R 4 w' w.heap.size (fun k => k = b) (.slice (some ⟨b, 0, none⟩) n n) (first n).fs ∧ Below w.heap.size w w' := by
  have m2 := make2 n hn
  have m4 := make4 n hn
  have al : ∀ (W : World) o, w.heap.size ≤ W.heap.size → Below W.heap.size W (W.alloc o) := fun W o _ => (Below.refl _ _).alloc (Nat.le_refl _) o
  go_enter Try.func93, Try.ntmps93
  go_wp2
  go_region
  all_goals go_wp2
  · refine bodyPost_ret (v := .agg #[.slice (some ⟨w.heap.size + 1, 0, none⟩) n n, .slice (some ⟨w.heap.size + 1 + 1, 0, none⟩) n n, .bool true]) (by simp [results, Try.results93, go_sem]) rfl ⟨_, _, rfl, ?_, ?_, ?_⟩
    · have h := R_mk (Value.int .i64) (fun _ => rfl) (0 : Int) 2 n w.heap.size (w.alloc (.cells #[.slice (some ⟨w.heap.size + 1, 0, none⟩) n n, .slice (some ⟨w.heap.size + 1 + 1, 0, none⟩) n n, .bool true] 60)) (by simp) (by omega)
      have h2 := Kd.R_below h ((Below.refl _ _).alloc (Nat.le_refl _) (.cells (madeCells #[.bool false] n) 4))
      simp only [World.size_alloc] at h2
      exact h2
    · have h := R_mk Value.bool (fun _ => rfl) false 4 n w.heap.size ((w.alloc (.cells #[.slice (some ⟨w.heap.size + 1, 0, none⟩) n n, .slice (some ⟨w.heap.size + 1 + 1, 0, none⟩) n n, .bool true] 60)).alloc (.cells (madeCells #[.int .i64 0] n) 2)) (by simp; omega) (by omega)
      simp only [World.size_alloc] at h
      exact h
    · exact ((((Below.refl _ _).alloc (Nat.le_refl _) _).alloc (by simp) _).alloc (by simp; omega) _).drew
  · refine bodyPost_ret (v := .agg #[.slice (some ⟨w.heap.size + 1 + 1, 0, none⟩) n n, .slice (some ⟨w.heap.size + 1, 0, none⟩) n n, .bool true]) (by simp [results, Try.results93, go_sem]) rfl ⟨_, _, rfl, ?_, ?_, ?_⟩
    · have h := R_mk (Value.int .i64) (fun _ => rfl) (0 : Int) 2 n w.heap.size ((w.alloc (.cells #[.slice (some ⟨w.heap.size + 1 + 1, 0, none⟩) n n, .slice (some ⟨w.heap.size + 1, 0, none⟩) n n, .bool true] 60)).alloc (.cells (madeCells #[.bool false] n) 4)) (by simp; omega) (by omega)
      simp only [World.size_alloc] at h
      exact h
    · have h := R_mk Value.bool (fun _ => rfl) false 4 n w.heap.size (w.alloc (.cells #[.slice (some ⟨w.heap.size + 1 + 1, 0, none⟩) n n, .slice (some ⟨w.heap.size + 1, 0, none⟩) n n, .bool true] 60)) (by simp) (by omega)
      have h2 := Kd.R_below h ((Below.refl _ _).alloc (Nat.le_refl _) (.cells (madeCells #[.int .i64 0] n) 2))
      simp only [World.size_alloc] at h2
      exact h2
    · exact ((((Below.refl _ _).alloc (Nat.le_refl _) _).alloc (by simp) _).alloc (by simp; omega) _).drew
end Go.Proofs.Ytfeabjiccnnpcaa.Ca
