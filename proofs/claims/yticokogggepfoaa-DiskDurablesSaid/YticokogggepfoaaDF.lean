/- The disk of the program in memory: its block, its rows; what a call leaves. The program's disk: a file's place, a counted write, the fall. No condition but what the disk holds. The program's disk falls. No condition but what the disk holds. The program's disk: the calls that read, arm, disarm, restart; a new one. No condition but what the disk holds. The program's disk: Read, Durable, Arm. No condition but what the disk holds. The program's disk: Arm. No condition but what the disk holds. No condition but what is said. -/
import Derived.Test.YticokogggepfoaaGx0
import Derived.Test.YticokogggepfoaaGy
import Derived.Outline
import Derived.LoopTactic
import Derived.RegionTactic
import Derived.StillTailTactics
import Derived.BigRegion
namespace Go.Proofs.Yticokogggepfoaa.D
open Go.RowKit Go.Proofs.YticokogggepfoaaW.PrintWords Go.Proofs.YticokogggepfoaaW.PrintLast Go.Proofs.YticokogggepfoaaW.PrintMore
attribute [local go_sem] max2_int min2_int max_two min_two max_three min_three max_four min_four
set_option linter.unusedVariables false
set_option linter.unusedSimpArgs false
/-! ### What a call leaves: all blocks but those of S -/
structure Upd (W W' : World) (S : Nat → Prop) : Prop where
  os : W'.os = W.os
  tape : W'.tape = W.tape
  output : W'.output = W.output
  size : W.heap.size ≤ W'.heap.size
  block : ∀ i, i < W.heap.size → ¬ S i → W'.heap[i]? = W.heap[i]?
section
variable {W W1 W2 : World} {S S' S2 : Nat → Prop}
theorem Upd.refl (W : World) (S : Nat → Prop) : Upd W W S := ⟨rfl, rfl, rfl, Nat.le_refl _, fun _ _ _ => rfl⟩
theorem Upd.of_below (h : Below W.heap.size W W1) (S : Nat → Prop) : Upd W W1 S := ⟨h.os, h.tape, h.output, h.size, fun i hi _ => h.block i hi⟩
theorem Upd.mono (h : Upd W W1 S) (hs : ∀ k, k < W.heap.size → S k → S' k) : Upd W W1 S' := ⟨h.os, h.tape, h.output, h.size, fun i hi hn => h.block i hi (fun hk => hn (hs i hi hk))⟩
theorem Upd.then_ (h : Upd W W1 S) (k : Upd W1 W2 S2) (hs : ∀ k, k < W.heap.size → S2 k → S k) : Upd W W2 S :=
  ⟨k.os.trans h.os, k.tape.trans h.tape, k.output.trans h.output, Nat.le_trans h.size k.size, fun i hi hn => (k.block i (Nat.lt_of_lt_of_le hi h.size) (fun h2 => hn (hs i hi h2))).trans (h.block i hi hn)⟩
theorem Upd.grown {row : Option Nat} (h : Upd W W1 S) (hg : W1.grownBy W2 row) (hr : ∀ k, row = some k → k < W.heap.size → S k) : Upd W W2 S :=
  h.then_ (S2 := fun k => row = some k) ⟨hg.os, hg.tape, hg.output, hg.size, fun i hi hn => hg.block i hi (fun he => hn he.symm)⟩ (fun k hk h2 => hr k h2 hk)
theorem Upd.alloc (h : Upd W W1 S) (o : Obj) : Upd W (W1.alloc o) S := h.then_ (Upd.of_below (below_alloc (Below.refl _ _) o) (fun _ => False)) (fun _ _ hk => hk.elim)
theorem Upd.drew (h : Upd W W1 S) : Upd W W1.drew S := ⟨h.os, h.tape, h.output, h.size, h.block⟩
theorem Upd.drewN (h : Upd W W1 S) (n : Nat) : Upd W (W1.drewN n) S := ⟨h.os, h.tape, h.output, h.size, h.block⟩
theorem Upd.setCell (h : Upd W W1 S) {p : Addr} (hp : p.block < W.heap.size → S p.block) (u : Value) : Upd W (W1.setCell p u) S :=
  h.then_ (S2 := fun k => k = p.block) ⟨rfl, rfl, rfl, by simp [World.setCell], fun i _ hn => Below.heap_setCell W1 p u i hn⟩ (fun k hk h2 => by subst h2; exact hp hk)
theorem Upd.below (h : Upd W W1 S) {B : Nat} {w : World} (hb : Below B w W) (hS : ∀ k, S k → B ≤ k) (hB : B ≤ W.heap.size) : Below B w W1 :=
  hb.trans ⟨h.os, h.tape, h.output, h.size, fun k hk => h.block k (Nat.lt_of_lt_of_le hk hB) (fun hs => by have := hS k hs; omega)⟩
end
/-! ### The program's disk: what its block and its rows hold -/
abbrev By := Kd.int .u8
abbrev Cr := Kd.pair (Kd.int .i64) (Kd.int .i64)
def DC (v0 : Value) (s0 : Int) (v1 : Value) (s1 : Int) (va : Value) (dn : Bool) (wr : Int) : Array Value := #[v0, .int .i64 s0, v1, .int .i64 s1, va, .bool dn, .int .i64 wr]
theorem dc_cells {W : World} {g : Nat} {v0 v1 va : Value} {s0 s1 wr : Int} {dn : Bool} (h : W.heap[g]? = some (.cells (DC v0 s0 v1 s1 va dn wr) 59 (0, 0))) :
    W.cell? ⟨g, 0, none⟩ = some v0 ∧ W.cell? ⟨g, 1, none⟩ = some (.int .i64 s0) ∧ W.cell? ⟨g, 2, none⟩ = some v1 ∧ W.cell? ⟨g, 3, none⟩ = some (.int .i64 s1) ∧ W.cell? ⟨g, 4, none⟩ = some va ∧ W.cell? ⟨g, 5, none⟩ = some (.bool dn) ∧ W.cell? ⟨g, 6, none⟩ = some (.int .i64 wr) := by
  refine ⟨?_, ?_, ?_, ?_, ?_, ?_, ?_⟩ <;> exact (blk_cell h _).trans rfl
/-- The program's disk, in plain. -/
structure PM where
  b0 : List Int
  s0 : Nat
  b1 : List Int
  s1 : Nat
  ar : List (Int × Int)
  dn : Bool
  wr : Int
/-- What the fall asks. -/
structure PM.ok0 (p : PM) : Prop where
  h0 : p.s0 ≤ p.b0.length
  h1 : p.s1 ≤ p.b1.length
  l0 : p.b0.length ≤ 16777216
  l1 : p.b1.length ≤ 16777216
  hk : ∀ a ∈ p.ar, 0 ≤ a.2 ∧ a.2 ≤ 16777216
structure PM.ok (p : PM) : Prop where
  h0 : p.s0 ≤ p.b0.length
  h1 : p.s1 ≤ p.b1.length
  l0 : p.b0.length ≤ 16777216
  l1 : p.b1.length ≤ 16777216
  la : p.ar.length ≤ 64
  ha : ∀ a ∈ p.ar, 1 ≤ a.1 ∧ a.1 ≤ 1000000 ∧ 0 ≤ a.2 ∧ a.2 ≤ 16777216
theorem PM.ok.to0 {p : PM} (h : p.ok) : p.ok0 := ⟨h.h0, h.h1, h.l0, h.l1, fun a ha => ⟨(h.ha a ha).2.2.1, (h.ha a ha).2.2.2⟩⟩
structure RepV (W : World) (B : Nat) (ok : Nat → Prop) (g : Nat) (p : PM) (v0 v1 va : Value) : Prop where
  blk : W.heap[g]? = some (.cells (DC v0 p.s0 v1 p.s1 va p.dn p.wr) 59 (0, 0))
  r0 : Kd.R By 5 W B (fun k => ok k ∧ some k ≠ v1.ownBlock) v0 p.b0
  r1 : Kd.R By 5 W B (fun k => ok k ∧ some k ≠ v0.ownBlock) v1 p.b1
  ra : Kd.Q Cr 61 W B ok va p.ar
  okg : ok g
  bg : B ≤ g
def Rep (W : World) (B : Nat) (ok : Nat → Prop) (g : Nat) (p : PM) : Prop := ∃ v0 v1 va, RepV W B ok g p v0 v1 va
section
variable {W W' : World} {B g : Nat} {ok ok' S : Nat → Prop} {p : PM} {v0 v1 va : Value} {A : Option Addr} {n c : Nat}
theorem RepV.upd (h : RepV W B ok g p v0 v1 va) (hu : Upd W W' S) (hne : ∀ k, ok k → k < W.heap.size → ¬ S k) : RepV W' B ok g p v0 v1 va where
  blk := (hu.block g (blk_lt h.blk) (hne g h.okg (blk_lt h.blk))).trans h.blk
  r0 := Kd.R_step h.r0 (fun k hk hlt => hu.block k hlt (hne k hk.1 hlt))
  r1 := Kd.R_step h.r1 (fun k hk hlt => hu.block k hlt (hne k hk.1 hlt))
  ra := Kd.Q_step h.ra (fun k hk hlt => hu.block k hlt (hne k hk hlt))
  okg := h.okg
  bg := h.bg
theorem RepV.mono (h : RepV W B ok g p v0 v1 va) (hok : ∀ k, ok k → ok' k) : RepV W B ok' g p v0 v1 va :=
  ⟨h.blk, Kd.R_mono h.r0 (fun k hk => ⟨hok k hk.1, hk.2⟩), Kd.R_mono h.r1 (fun k hk => ⟨hok k hk.1, hk.2⟩), Kd.Q_mono h.ra hok, hok g h.okg, h.bg⟩
theorem RepV.bound (h : RepV W B ok g p v0 v1 va) : RepV W B (fun k => ok k ∧ B ≤ k ∧ k < W.heap.size) g p v0 v1 va :=
  ⟨h.blk, Kd.R_mono (Kd.R_bound h.r0) (fun k hk => ⟨⟨hk.1.1, hk.2.1, hk.2.2.1⟩, hk.1.2⟩), Kd.R_mono (Kd.R_bound h.r1) (fun k hk => ⟨⟨hk.1.1, hk.2.1, hk.2.2.1⟩, hk.1.2⟩), Kd.Q_mono (Kd.Q_bound h.ra) (fun k hk => ⟨hk.1, hk.2.1, hk.2.2.1⟩), ⟨h.okg, h.bg, blk_lt h.blk⟩, h.bg⟩
theorem Rep.upd (h : Rep W B ok g p) (hu : Upd W W' S) (hne : ∀ k, ok k → k < W.heap.size → ¬ S k) : Rep W' B ok g p := by obtain ⟨a, b, c, h⟩ := h; exact ⟨a, b, c, h.upd hu hne⟩
theorem Rep.mono (h : Rep W B ok g p) (hok : ∀ k, ok k → ok' k) : Rep W B ok' g p := by obtain ⟨a, b, c, h⟩ := h; exact ⟨a, b, c, h.mono hok⟩
theorem Rep.bound (h : Rep W B ok g p) : Rep W B (fun k => ok k ∧ B ≤ k ∧ k < W.heap.size) g p := by obtain ⟨a, b, c, h⟩ := h; exact ⟨a, b, c, h.bound⟩
/-- A store into the disk's own block that changes no slice. -/
theorem RepV.rows_set (h : RepV W B ok g p v0 v1 va) (j : Nat) (u : Value) :
    Kd.R By 5 (W.setCell ⟨g, j, none⟩ u) B (fun k => ok k ∧ some k ≠ v1.ownBlock) v0 p.b0 ∧ Kd.R By 5 (W.setCell ⟨g, j, none⟩ u) B (fun k => ok k ∧ some k ≠ v0.ownBlock) v1 p.b1 ∧ Kd.Q Cr 61 (W.setCell ⟨g, j, none⟩ u) B ok va p.ar :=
  ⟨Kd.R_set h.r0 h.blk (by decide) j u, Kd.R_set h.r1 h.blk (by decide) j u, Kd.Q_set h.ra h.blk (by decide) j u⟩
theorem RepV.set_wr (h : RepV W B ok g p v0 v1 va) (x : Int) : RepV (W.setCell ⟨g, 6, none⟩ (.int .i64 x)) B ok g { p with wr := x } v0 v1 va :=
  have ⟨a, b, c⟩ := h.rows_set 6 (.int .i64 x); ⟨blk_set h.blk 6 _, a, b, c, h.okg, h.bg⟩
theorem RepV.set_dn (h : RepV W B ok g p v0 v1 va) (x : Bool) : RepV (W.setCell ⟨g, 5, none⟩ (.bool x)) B ok g { p with dn := x } v0 v1 va :=
  have ⟨a, b, c⟩ := h.rows_set 5 (.bool x); ⟨blk_set h.blk 5 _, a, b, c, h.okg, h.bg⟩
theorem RepV.set_s0 (h : RepV W B ok g p v0 v1 va) (x : Nat) : RepV (W.setCell ⟨g, 1, none⟩ (.int .i64 x)) B ok g { p with s0 := x } v0 v1 va :=
  have ⟨a, b, c⟩ := h.rows_set 1 (.int .i64 x); ⟨blk_set h.blk 1 _, a, b, c, h.okg, h.bg⟩
theorem RepV.set_s1 (h : RepV W B ok g p v0 v1 va) (x : Nat) : RepV (W.setCell ⟨g, 3, none⟩ (.int .i64 x)) B ok g { p with s1 := x } v0 v1 va :=
  have ⟨a, b, c⟩ := h.rows_set 3 (.int .i64 x); ⟨blk_set h.blk 3 _, a, b, c, h.okg, h.bg⟩
theorem RepV.set_ar (h : RepV W B ok g p v0 v1 va) (u : Value) (ar : List (Int × Int)) (hu : Kd.Q Cr 61 W B ok u ar) : RepV (W.setCell ⟨g, 4, none⟩ u) B ok g { p with ar := ar } v0 v1 u :=
  have ⟨a, b, c⟩ := h.rows_set 4 u; ⟨blk_set h.blk 4 _, a, b, Kd.Q_set hu h.blk (by decide) 4 u, h.okg, h.bg⟩
/-- A file's first bytes alone. -/
theorem RepV.cut0 (h : RepV W B ok g p (.slice A n c) v1 va) (m : Nat) (hm : m ≤ p.b0.length) : RepV (W.setCell ⟨g, 0, none⟩ (.slice A m c)) B ok g { p with b0 := p.b0.take m } (.slice A m c) v1 va := by
  have ⟨a, b, c'⟩ := h.rows_set 0 (.slice A m c)
  exact ⟨blk_set h.blk 0 _, Kd.R_take a hm, Kd.R_mono b (fun k hk => ⟨hk.1, by cases A <;> exact hk.2⟩), c', h.okg, h.bg⟩
theorem RepV.cut1 (h : RepV W B ok g p v0 (.slice A n c) va) (m : Nat) (hm : m ≤ p.b1.length) : RepV (W.setCell ⟨g, 2, none⟩ (.slice A m c)) B ok g { p with b1 := p.b1.take m } v0 (.slice A m c) va := by
  have ⟨a, b, c'⟩ := h.rows_set 2 (.slice A m c)
  exact ⟨blk_set h.blk 2 _, Kd.R_mono a (fun k hk => ⟨hk.1, by cases A <;> exact hk.2⟩), Kd.R_take b hm, c', h.okg, h.bg⟩
/-- An append to a file's row: the row may be another one then. -/
theorem RepV.app0 {w1 : World} {u : Value} {xs : List Int} (h : RepV W B ok g p v0 v1 va) (hr : Kd.R By 5 w1 B (fun k => (ok k ∨ W.heap.size ≤ k) ∧ some k ≠ v1.ownBlock) u xs) (hg : W.grownBy w1 v0.ownBlock)
    (hat : u.ownBlock = v0.ownBlock ∨ ∃ b, u.ownBlock = some b ∧ W.heap.size ≤ b) : RepV (w1.setCell ⟨g, 0, none⟩ u) B (fun k => ok k ∨ W.heap.size ≤ k) g { p with b0 := xs } u v1 va ∧ Upd W (w1.setCell ⟨g, 0, none⟩ u) ok := by
  have hne : some g ≠ v0.ownBlock := Kd.R_ne h.r0 h.blk (by decide)
  have hb : w1.heap[g]? = some (.cells (DC v0 p.s0 v1 p.s1 va p.dn p.wr) 59 (0, 0)) := blk_grown h.blk hg hne
  have r1 : Kd.R By 5 w1 B (fun k => (ok k ∨ W.heap.size ≤ k) ∧ some k ≠ u.ownBlock) v1 p.b1 := by
    refine Kd.R_mono (Kd.R_step (Kd.R_bound h.r1) (fun k hk _ => hg.block k hk.2.2.1 hk.1.2)) (fun k hk => ⟨.inl hk.1.1, ?_⟩)
    rcases hat with he | ⟨b, he, hle⟩
    · rw [he]; exact hk.1.2
    · rw [he]; intro h2; injection h2 with h2; have := hk.2.2.1; omega
  have ra : Kd.Q Cr 61 w1 B (fun k => ok k ∨ W.heap.size ≤ k) va p.ar := Kd.Q_mono (Kd.Q_over' h.ra (Kd.R_typed h.r0) (by decide) hg) (fun k hk => .inl hk)
  refine ⟨⟨blk_set hb 0 _, Kd.R_set hr hb (by decide) 0 _, Kd.R_set r1 hb (by decide) 0 _, Kd.Q_set ra hb (by decide) 0 _, .inl h.okg, h.bg⟩, ?_⟩
  exact ((Upd.refl W ok).grown hg (fun k hk _ => (h.r0.1 k hk).1)).setCell (fun _ => h.okg) _
theorem RepV.app1 {w1 : World} {u : Value} {xs : List Int} (h : RepV W B ok g p v0 v1 va) (hr : Kd.R By 5 w1 B (fun k => (ok k ∨ W.heap.size ≤ k) ∧ some k ≠ v0.ownBlock) u xs) (hg : W.grownBy w1 v1.ownBlock)
    (hat : u.ownBlock = v1.ownBlock ∨ ∃ b, u.ownBlock = some b ∧ W.heap.size ≤ b) : RepV (w1.setCell ⟨g, 2, none⟩ u) B (fun k => ok k ∨ W.heap.size ≤ k) g { p with b1 := xs } v0 u va ∧ Upd W (w1.setCell ⟨g, 2, none⟩ u) ok := by
  have hne : some g ≠ v1.ownBlock := Kd.R_ne h.r1 h.blk (by decide)
  have hb : w1.heap[g]? = some (.cells (DC v0 p.s0 v1 p.s1 va p.dn p.wr) 59 (0, 0)) := blk_grown h.blk hg hne
  have r0 : Kd.R By 5 w1 B (fun k => (ok k ∨ W.heap.size ≤ k) ∧ some k ≠ u.ownBlock) v0 p.b0 := by
    refine Kd.R_mono (Kd.R_step (Kd.R_bound h.r0) (fun k hk _ => hg.block k hk.2.2.1 hk.1.2)) (fun k hk => ⟨.inl hk.1.1, ?_⟩)
    rcases hat with he | ⟨b, he, hle⟩
    · rw [he]; exact hk.1.2
    · rw [he]; intro h2; injection h2 with h2; have := hk.2.2.1; omega
  have ra : Kd.Q Cr 61 w1 B (fun k => ok k ∨ W.heap.size ≤ k) va p.ar := Kd.Q_mono (Kd.Q_over' h.ra (Kd.R_typed h.r1) (by decide) hg) (fun k hk => .inl hk)
  refine ⟨⟨blk_set hb 2 _, Kd.R_set r0 hb (by decide) 2 _, Kd.R_set hr hb (by decide) 2 _, Kd.Q_set ra hb (by decide) 2 _, .inl h.okg, h.bg⟩, ?_⟩
  exact ((Upd.refl W ok).grown hg (fun k hk _ => (h.r1.1 k hk).1)).setCell (fun _ => h.okg) _
/-- An append to the row of crashes. -/
theorem RepV.appa {w1 : World} {u : Value} {ar : List (Int × Int)} (h : RepV W B ok g p v0 v1 va) (hr : Kd.Q Cr 61 w1 B (fun k => ok k ∨ W.heap.size ≤ k) u ar) (hg : W.grownBy w1 va.ownBlock) :
    RepV (w1.setCell ⟨g, 4, none⟩ u) B (fun k => ok k ∨ W.heap.size ≤ k) g { p with ar := ar } v0 v1 u ∧ Upd W (w1.setCell ⟨g, 4, none⟩ u) ok := by
  have hne : some g ≠ va.ownBlock := Kd.Q_ne h.ra h.blk (by decide)
  have hb : w1.heap[g]? = some (.cells (DC v0 p.s0 v1 p.s1 va p.dn p.wr) 59 (0, 0)) := blk_grown h.blk hg hne
  have ht := Kd.Q_typed h.ra
  have over : ∀ {o : Nat → Prop} {v : Value} {xs : List Int}, Kd.R By 5 W B o v xs → Kd.R By 5 w1 B o v xs := fun {o v xs} hv => by
    refine Kd.R_mono (Kd.R_step (Kd.R_bound hv) (fun k hk _ => hg.block k hk.2.2.1 (fun he => ?_))) (fun k hk => hk.1)
    obtain ⟨q, hq, cs, hc⟩ := hk.2.2.2
    obtain ⟨cs', hc'⟩ := ht k he.symm
    have h3 := Option.some.inj (hc.symm.trans hc')
    simp only [Obj.cells.injEq] at h3
    have h4 := h3.2.1
    subst h4
    exact absurd hq (by decide)
  refine ⟨⟨blk_set hb 4 _, Kd.R_set (Kd.R_mono (over h.r0) (fun k hk => ⟨.inl hk.1, hk.2⟩)) hb (by decide) 4 _, Kd.R_set (Kd.R_mono (over h.r1) (fun k hk => ⟨.inl hk.1, hk.2⟩)) hb (by decide) 4 _, Kd.Q_set hr hb (by decide) 4 _, .inl h.okg, h.bg⟩, ?_⟩
  exact ((Upd.refl W ok).grown hg (fun k hk _ => h.ra.1 k hk)).setCell (fun _ => h.okg) _
end
end Go.Proofs.Yticokogggepfoaa.D
namespace Go.Proofs.Yticokogggepfoaa.D
open Go.RowKit Go.Proofs.YticokogggepfoaaW.PrintWords Go.Proofs.YticokogggepfoaaW.PrintLast Go.Proofs.YticokogggepfoaaW.PrintMore
attribute [local go_sem] max2_int min2_int max_two min_two max_three min_three max_four min_four
set_option linter.unusedVariables false
set_option linter.unusedSimpArgs false
set_option maxRecDepth 100000
/-! ### file -/
theorem file_bad (p : Value) (n : Int) (hn : n < 0 ∨ 2 ≤ n) (W : World) : Calls Try.prog 32 #[p, .int .i64 n] W fun e W' => e = .returned (.tuple #[.pointer none, .int .i64 50]) ∧ W = W' := by
  rcases hn with h | h
  · have h2 : decide (n < 0) = true := decide_eq_true h
    go_enter Try.func32, Try.ntmps32
    go_wp2
    go_ret2
    exact ⟨rfl, rfl⟩
  · have h2 : decide (n < 0) = false := decide_eq_false (by omega)
    have h3 : decide (2 ≤ n) = true := decide_eq_true h
    go_enter Try.func32, Try.ntmps32
    go_wp2
    go_ret2
    exact ⟨rfl, rfl⟩
section
variable {W : World} {B g : Nat} {ok : Nat → Prop} {p : PM} {v0 v1 va : Value}
theorem file_down (n : Int) (h0 : 0 ≤ n) (h1 : n < 2) (h : RepV W B ok g p v0 v1 va) (hd : p.dn = true) :
    Calls Try.prog 32 #[.pointer (some ⟨g, 0, none⟩), .int .i64 n] W fun e W' => e = .returned (.tuple #[.pointer none, .int .i64 51]) ∧ W = W' := by
  obtain ⟨c0, c1, c2, c3, c4, c5, c6⟩ := dc_cells h.blk
  have h2 : decide (n < 0) = false := decide_eq_false (by omega)
  have h3 : decide (2 ≤ n) = false := decide_eq_false (by omega)
  rw [hd] at c5
  clear h c0 c1 c2 c3 c4 c6 hd
  go_enter Try.func32, Try.ntmps32
  go_wp2
  go_ret2
  exact ⟨rfl, rfl⟩
theorem file_up (n : Int) (h0 : 0 ≤ n) (h1 : n < 2) (h : RepV W B ok g p v0 v1 va) (hd : p.dn = false) :
    Calls Try.prog 32 #[.pointer (some ⟨g, 0, none⟩), .int .i64 n] W fun e W' => e = .returned (.tuple #[.pointer (some ⟨g, n.toNat * 2, none⟩), .int .i64 0]) ∧ W = W' := by
  obtain ⟨c0, c1, c2, c3, c4, c5, c6⟩ := dc_cells h.blk
  have h2 : decide (n < 0) = false := decide_eq_false (by omega)
  have h3 : decide (2 ≤ n) = false := decide_eq_false (by omega)
  rw [hd] at c5
  clear h c0 c1 c2 c3 c4 c6 hd
  go_enter Try.func32, Try.ntmps32
  go_wp2
  go_ret2
  exact ⟨rfl, rfl⟩
end
/-! ### write -/
def PM.write (p : PM) : PM × Bool := match p.ar with
  | [] => ({ p with wr := wrap64 (p.wr + 1) }, true)
  | a :: r => ({ p with wr := wrap64 (p.wr + 1), ar := (a.1 - 1, a.2) :: r }, decide (1 < a.1))
theorem cr_cells {W : World} {B : Nat} {ok : Nat → Prop} {ga o n c : Nat} {a : Int × Int} {r : List (Int × Int)} (h : Kd.Q Cr 61 W B ok (.slice (some ⟨ga, o, none⟩) n c) (a :: r)) :
    W.cell? ⟨ga, o, none⟩ = some (.int .i64 a.1) ∧ W.cell? ⟨ga, o + 1, none⟩ = some (.int .i64 a.2) ∧ W.frozen? ⟨ga, o, none⟩ = false ∧
    ∀ x, Kd.Q Cr 61 (W.setCell ⟨ga, o, none⟩ (.int .i64 x)) B ok (.slice (some ⟨ga, o, none⟩) n c) ((x, a.2) :: r) := by
  have hn := (Kd.Q_reads' h).1
  obtain ⟨cs, hcl, hM, hcc, hfr⟩ := Kd.Q_elem h (0, 0) 0 (Int.le_refl _) (by rw [hn]; simp)
  have hM' := hM
  obtain ⟨c0, c1, rfl, h0, h1⟩ := hM
  obtain rfl : c0 = [.int .i64 a.1] := h0
  obtain rfl : c1 = [.int .i64 a.2] := h1
  have e0 := hcc 0 _ rfl
  have e1 := hcc 1 _ rfl
  refine ⟨by simpa using e0, by simpa using e1, by simpa using hfr 0, fun x => ?_⟩
  have hs := (Kd.Q_seg h 0 (Int.le_refl _) (by rw [hn]; simp) (seg := [.int .i64 x]) (j := 0) hcl hcc (show 0 + 1 ≤ 2 by decide) (x' := (x, a.2)) (okp := fun k => ok k ∧ k ≠ ga) ⟨[.int .i64 x], [.int .i64 a.2], rfl, rfl, rfl⟩ (fun _ hk => hk)).1
  simpa [World.setCells] using hs
theorem RepV.set_left {W : World} {B g : Nat} {ok : Nat → Prop} {p : PM} {v0 v1 : Value} {ga o n c : Nat} {a : Int × Int} {r : List (Int × Int)} (h : RepV W B ok g p v0 v1 (.slice (some ⟨ga, o, none⟩) n c)) (har : p.ar = a :: r) (x : Int) :
    RepV (W.setCell ⟨ga, o, none⟩ (.int .i64 x)) B ok g { p with ar := (x, a.2) :: r } v0 v1 (.slice (some ⟨ga, o, none⟩) n c) := by
  have hra := h.ra
  obtain ⟨cells, hc⟩ := Kd.Q_typed hra ga (by simp [Value.ownBlock])
  rw [har] at hra
  exact ⟨blk_far h.blk (blk_ne h.blk hc (by decide)) _, Kd.R_set h.r0 hc (by decide) _ _, Kd.R_set h.r1 hc (by decide) _ _, (cr_cells hra).2.2.2 x, h.okg, h.bg⟩
theorem write_calls {W : World} {B g : Nat} {ok : Nat → Prop} {p : PM} (h : Rep W B ok g p) (hp : p.ok) :
    Calls Try.prog 33 #[.pointer (some ⟨g, 0, none⟩)] W fun e W' => e = .returned (.bool p.write.2) ∧ Rep W' B ok g p.write.1 ∧ Upd W W' ok := by
  obtain ⟨v0, v1, va, h⟩ := h
  obtain ⟨c0, c1, c2, c3, c4, c5, c6⟩ := dc_cells h.blk
  have hf := blk_frozen h.blk
  cases har : p.ar with
  | nil =>
    obtain ⟨A, c, rfl, hc⟩ := Kd.Q_slice h.ra
    have e : p.write = ({ p with wr := wrap64 (p.wr + 1) }, true) := by unfold PM.write; rw [har]
    have H := Aside0.mk h
    have HE := Aside0.mk e
    rw [har] at c4
    clear h hc e har c0 c1 c2 c3 c5 hp
    go_enter Try.func33, Try.ntmps33
    go_wp2
    go_ret
    rw [HE.out]
    exact ⟨rfl, ⟨_, _, _, H.out.set_wr _⟩, (Upd.refl _ _).setCell (fun _ => H.out.okg) _⟩
  | cons a r =>
    obtain ⟨ga, o, c, rfl, hb, hlt, cells, hcells⟩ := Kd.Q_form h.ra (by rw [har]; simp)
    have hra := h.ra
    rw [har] at hra c4
    obtain ⟨d0, d1, df, dset⟩ := cr_cells hra
    have ha := hp.ha a (by rw [har]; simp)
    have hga : g ≠ ga := blk_ne h.blk hcells (by decide)
    have e : p.write = ({ p with wr := wrap64 (p.wr + 1), ar := (a.1 - 1, a.2) :: r }, decide (1 < a.1)) := by unfold PM.write; rw [har]
    have H := Aside0.mk h
    have HE := Aside0.mk e
    have HA := Aside0.mk har
    have a1 := ha.1
    have a2 := ha.2.1
    have hz : decide (((a :: r).length : Int) = 0) = false := by simp; omega
    have hlen : 0 < (a :: r).length := by simp
    clear h hra e c0 c1 c2 c3 c5 hp ha hb hlt hcells dset har d1
    go_enter Try.func33, Try.ntmps33
    go_wp2
    go_ret
    rw [HE.out]
    have h1 := (H.out.set_wr (wrap64 (p.wr + 1))).set_left HA.out (a.1 - 1)
    refine ⟨rfl, ⟨_, _, _, h1⟩, ((Upd.refl _ _).setCell (fun _ => H.out.okg) _).setCell (fun _ => H.out.ra.1 ga (by simp [Value.ownBlock])) _⟩
end Go.Proofs.Yticokogggepfoaa.D
namespace Go.Proofs.Yticokogggepfoaa.D
open Go.RowKit Go.Proofs.YticokogggepfoaaW.PrintWords Go.Proofs.YticokogggepfoaaW.PrintLast Go.Proofs.YticokogggepfoaaW.PrintMore
attribute [local go_sem] max2_int min2_int max_two min_two max_three min_three max_four min_four
set_option linter.unusedVariables false
set_option linter.unusedSimpArgs false
set_option maxRecDepth 100000
def PM.f0 (p : PM) (keep : Int) : PM := { p with b0 := p.b0.take (min p.b0.length (p.s0 + keep.toNat)), s0 := min p.b0.length (p.s0 + keep.toNat) }
def PM.f1 (p : PM) (keep : Int) : PM := { p with b1 := p.b1.take (min p.b1.length (p.s1 + keep.toNat)), s1 := min p.b1.length (p.s1 + keep.toNat) }
def PM.fk (p : PM) (keep : Int) : Nat → PM
  | 0 => p
  | 1 => p.f0 keep
  | _ => (p.f0 keep).f1 keep
def PM.fall (p : PM) : PM := match p.ar with
  | [] => p
  | a :: r => ({ p with ar := r, dn := true } : PM).fk a.2 2
theorem Kd.R_slice_len {α : Type} {d : Kd α} {e base : Nat} {w : World} {ok : Nat → Prop} {v : Value} {xs : List α} (h : d.R e w base ok v xs) : ∃ A c, v = .slice A xs.length c ∧ xs.length ≤ c := by
  obtain ⟨A, c, rfl, h1, _⟩ := Kd.R_reads h
  exact ⟨A, c, rfl, h1⟩
theorem RepV.drew {W : World} {B g : Nat} {ok : Nat → Prop} {p : PM} {v0 v1 va : Value} (h : RepV W B ok g p v0 v1 va) : RepV W.drew B ok g p v0 v1 va := h.upd (S := fun _ => False) ((Upd.refl _ _).drew) (fun _ _ _ hk => hk)
theorem RepV.set_s0' {W : World} {B g : Nat} {ok : Nat → Prop} {p : PM} {v0 v1 va : Value} (h : RepV W B ok g p v0 v1 va) {x : Int} {m : Nat} (hx : x = (m : Int)) : RepV (W.setCell ⟨g, 1, none⟩ (.int .i64 x)) B ok g { p with s0 := m } v0 v1 va := by subst hx; exact h.set_s0 m
theorem RepV.set_s1' {W : World} {B g : Nat} {ok : Nat → Prop} {p : PM} {v0 v1 va : Value} (h : RepV W B ok g p v0 v1 va) {x : Int} {m : Nat} (hx : x = (m : Int)) : RepV (W.setCell ⟨g, 3, none⟩ (.int .i64 x)) B ok g { p with s1 := m } v0 v1 va := by subst hx; exact h.set_s1 m
theorem gen_world {P : Program} {c : Code} {Q : Exit → Act → World → Prop} {a : Act} {W : World} (F : World → Prop) (h0 : F W) (h : ∀ W2, F W2 → c.wp P Q a W2) : c.wp P Q a W := h W h0
theorem fk_len (p : PM) (keep : Int) : ((p.fk keep 0).b0 = p.b0 ∧ (p.fk keep 0).s0 = p.s0) ∧ ((p.fk keep 1).b1 = p.b1 ∧ (p.fk keep 1).s1 = p.s1) := ⟨⟨rfl, rfl⟩, rfl, rfl⟩
set_option maxHeartbeats 2000000 in
theorem fall_calls {W : World} {B g : Nat} {ok : Nat → Prop} {p : PM} {a : Int × Int} {r : List (Int × Int)} (h : Rep W B ok g p) (hp : p.ok0) (har : p.ar = a :: r) :
    Calls Try.prog 34 #[.pointer (some ⟨g, 0, none⟩)] W fun e W' => e = .returned (.int .i64 51) ∧ Rep W' B ok g p.fall ∧ Upd W W' ok := by
  obtain ⟨v0, v1, va, h⟩ := h
  have e : p.fall = ({ p with ar := r, dn := true } : PM).fk a.2 2 := by unfold PM.fall; rw [har]
  rw [e]; clear e
  obtain ⟨c0, c1, c2, c3, c4, c5, c6⟩ := dc_cells h.blk
  have hf := blk_frozen h.blk
  obtain ⟨ga, o, c, rfl, hb, hlt, cells, hcells⟩ := Kd.Q_form h.ra (by rw [har]; simp)
  have hra := h.ra
  rw [har] at hra c4
  obtain ⟨d0, d1, df, dset⟩ := cr_cells hra
  have hdrop := Kd.Q_drop hra (k := 1) (by simp)
  have hcl := (Kd.Q_reads' hra).2.1
  have ha := hp.hk a (by rw [har]; simp)
  have a3 := ha.1
  have a4 := ha.2
  obtain ⟨al, ak⟩ := a
  obtain ⟨K, rfl⟩ : ∃ K : Nat, ak = (K : Int) := Int.eq_ofNat_of_zero_le a3
  dsimp only at a3 a4
  have hlen : 0 < ((al, (K : Int)) :: r).length := by simp
  have H := Aside0.mk h
  have HR := Aside0.mk hdrop
  have HP := Aside0.mk hp
  obtain ⟨p1, hp1⟩ : ∃ p1 : PM, p1 = { p with ar := r, dn := true } := ⟨_, rfl⟩
  have HP1 := Aside0.mk hp1
  rw [← hp1]
  have l0 : p1.b0.length ≤ 16777216 := by rw [hp1]; exact hp.l0
  have l1 : p1.b1.length ≤ 16777216 := by rw [hp1]; exact hp.l1
  have t0 : p1.s0 ≤ p1.b0.length := by rw [hp1]; exact hp.h0
  have t1 : p1.s1 ≤ p1.b1.length := by rw [hp1]; exact hp.h1
  clear h hra c0 c1 c2 c3 c6 hp ha hb hlt hcells dset har d0 df hdrop hp1
  by_cases hc1 : c = 1
  all_goals
    go_enter Try.func34, Try.ntmps34
    go_wp2
    go_loopw [24] (fun i wr => ∃ k : Nat, k ≤ 2 ∧ i = .int .i64 k ∧ Aside0 (Rep wr B ok g (p1.fk K k)) ∧ Aside0 (Upd W wr ok)) (fun i _ => 2 - (intOf i).toNat)
    case atStart =>
      refine ⟨0, by omega, rfl, ?_, ⟨((Upd.refl _ _).setCell (fun _ => H.out.okg) _).setCell (fun _ => H.out.okg) _⟩⟩
      rw [HP1.out]
      exact ⟨_, _, _, (H.out.set_ar _ r (by have h_ := HR.out; first | simpa [hc1, Addr.add, show Cr.sz = 2 from rfl] using h_ | (simp only [hc1, if_false, Option.map_some, add_at] at h_; exact h_))).set_dn true⟩
    case round =>
      obtain ⟨k, hk, rfl, HK, HU⟩ := hrel
      clear c4 d1 c5 hf
      obtain ⟨u0, u1, ua, hh⟩ := HK.out
      obtain ⟨c0, c1, c2, c3, c4, c5, c6⟩ := dc_cells hh.blk
      have hf := blk_frozen hh.blk
      have HH := Aside0.mk hh
      obtain ⟨A0, n0, rfl, hn0⟩ := Kd.R_slice_len hh.r0
      obtain ⟨A1, n1, rfl, hn1⟩ := Kd.R_slice_len hh.r1
      clear hh HK
      rcases (show k = 0 ∨ k = 1 ∨ k = 2 by omega) with rfl | rfl | rfl
      · simp only [PM.fk] at c0 c1 c2 c3 c4 c5 c6 hn0 hn1 HH
        clear c2 c3 c4 c5 c6
        go_wp2
        go_still_tail 15, (by kernel_rfl)
        go_wp2
        all_goals
          refine gen_world (fun w2 => RepV w2 B ok g { p1 with s0 := min p1.b0.length (p1.s0 + K) } (.slice A0 p1.b0.length n0) (.slice A1 p1.b1.length n1) ua ∧ Upd W w2 ok) ⟨?_, ?_⟩ ?_
          · exact (HH.out.set_s0' (by omega)).drew
          · exact (HU.out.setCell (fun _ => HH.out.okg) _).drew
          rintro w2 ⟨hh2, hu2⟩
          obtain ⟨c0, c1, c2, c3, c4, c5, c6⟩ := dc_cells hh2.blk
          have hf2 := blk_frozen hh2.blk
          dsimp only at c0 c1
          have hm1 : min p1.b0.length (p1.s0 + K) ≤ p1.b0.length := Nat.min_le_left _ _
          obtain ⟨m, hm⟩ : ∃ m, m = min p1.b0.length (p1.s0 + K) := ⟨_, rfl⟩
          have HM := Aside0.mk hm
          rw [← hm] at c1 hh2 hm1
          have HH2 := Aside0.mk hh2
          obtain ⟨i0_, hi0_, _, _, _⟩ := info_parts G.info5
          have hcut := cut_to (P := Try.prog) 28 5 .i64 Try.underlying28 hi0_ A0 p1.b0.length n0 (m : Int) (by omega) (by omega) hn0
          rw [Int.toNat_natCast] at hcut
          clear hi0_
          have HU2 := Aside0.mk hu2
          clear hf hm hh2 hu2 c2 c3 c4 c5 c6
          go_still_tail 12, (by kernel_rfl)
          go_wp2
          all_goals
            go_roundw
            case rel =>
              refine ⟨1, by omega, by first | rfl | go_num, ?_, ?_⟩
              · have e : p1.fk K 1 = { p1 with b0 := p1.b0.take m, s0 := m } := by rw [HM.out]; rfl
                rw [e]
                exact ⟨⟨_, _, _, by repeat (first | exact HH2.out.cut0 m hm1 | apply RepV.drew)⟩⟩
              · exact ⟨by repeat (first | exact HU2.out.setCell (fun _ => HH2.out.okg) _ | apply Upd.drew)⟩
            case measure => simp [intOf]
      · simp only [PM.fk] at c0 c1 c2 c3 c4 c5 c6 hn0 hn1 HH
        obtain ⟨p2, hp2⟩ : ∃ p2 : PM, p2 = p1.f0 K := ⟨_, rfl⟩
        have HP2 := Aside0.mk hp2
        have m0 : p2.s1 ≤ p2.b1.length := by rw [hp2]; exact t1
        have m1 : p2.b1.length ≤ 16777216 := by rw [hp2]; exact l1
        rw [← hp2] at c0 c1 c2 c3 hn0 hn1 HH
        clear hp2
        clear c0 c1 c4 c5 c6
        go_wp2
        go_still_tail 15, (by kernel_rfl)
        go_wp2
        all_goals
          refine gen_world (fun w2 => RepV w2 B ok g { p2 with s1 := min p2.b1.length (p2.s1 + K) } (.slice A0 p2.b0.length n0) (.slice A1 p2.b1.length n1) ua ∧ Upd W w2 ok) ⟨?_, ?_⟩ ?_
          · exact (HH.out.set_s1' (by omega)).drew
          · exact (HU.out.setCell (fun _ => HH.out.okg) _).drew
          rintro w2 ⟨hh2, hu2⟩
          obtain ⟨c0, c1, c2, c3, c4, c5, c6⟩ := dc_cells hh2.blk
          have hf2 := blk_frozen hh2.blk
          dsimp only at c2 c3
          have hm1 : min p2.b1.length (p2.s1 + K) ≤ p2.b1.length := Nat.min_le_left _ _
          obtain ⟨m, hm⟩ : ∃ m, m = min p2.b1.length (p2.s1 + K) := ⟨_, rfl⟩
          have HM := Aside0.mk hm
          rw [← hm] at c3 hh2 hm1
          have HH2 := Aside0.mk hh2
          obtain ⟨i0_, hi0_, _, _, _⟩ := info_parts G.info5
          have hcut := cut_to (P := Try.prog) 28 5 .i64 Try.underlying28 hi0_ A1 p2.b1.length n1 (m : Int) (by omega) (by omega) hn1
          rw [Int.toNat_natCast] at hcut
          clear hi0_
          have HU2 := Aside0.mk hu2
          clear hf hm hh2 hu2 c0 c1 c4 c5 c6
          go_still_tail 12, (by kernel_rfl)
          go_wp2
          all_goals
            go_roundw
            case rel =>
              refine ⟨2, by omega, by first | rfl | go_num, ?_, ?_⟩
              · have e : p1.fk K 2 = { p2 with b1 := p2.b1.take m, s1 := m } := by rw [HM.out, HP2.out]; rfl
                rw [e]
                exact ⟨⟨_, _, _, by repeat (first | exact HH2.out.cut1 m hm1 | apply RepV.drew)⟩⟩
              · exact ⟨by repeat (first | exact HU2.out.setCell (fun _ => HH2.out.okg) _ | apply Upd.drew)⟩
            case measure => simp [intOf]
      · clear c0 c1 c2 c3 c4 c5 c6 hf hn0 hn1
        go_wp2
        go_ret
        exact ⟨rfl, ⟨_, _, _, HH.out⟩, HU.out⟩
end Go.Proofs.Yticokogggepfoaa.D
namespace Go.Proofs.Yticokogggepfoaa.D
open Go.RowKit Go.Proofs.YticokogggepfoaaW.PrintWords Go.Proofs.YticokogggepfoaaW.PrintLast Go.Proofs.YticokogggepfoaaW.PrintMore
attribute [local go_sem] max2_int min2_int max_two min_two max_three min_three max_four min_four
set_option linter.unusedVariables false
set_option linter.unusedSimpArgs false
set_option maxRecDepth 100000
theorem info61 : (Try.prog.info? 61).map (fun i => (i.zero, i.size, i.bytes)) = some (some (.agg #[.int .i64 0, .int .i64 0]), 2, 16) := by kernel_rfl
/-- What a call that only makes memory hands back: a row of bytes. -/
def Fresh (W : World) (l : List Int) (v : Value) (W' : World) : Prop := Kd.R By 5 W' W.heap.size (fun _ => True) v l ∧ Below W.heap.size W W'
theorem fresh_calls (A : Option Addr) (c : Nat) (l : List Int) (W : World) (hr : Kd.C By W A l.length l) (hl : l.length ≤ 140737488355328) :
    Calls Try.prog 35 #[.slice A l.length c] W fun e W' => ∃ v, e = .returned v ∧ Fresh W l v W' := by
  have HR := Aside0.mk hr
  have HL := Aside0.mk hl
  clear hr hl
  go_enter Try.func35, Try.ntmps35
  go_wp2_with (first
    | ((with_reducible refine gate_dst (N := 6) rfl ?_); refine Kd.R_make By (w0 := W) W.heap.size 5 rfl (N := 6) rfl 28 _ _ rfl (l.length : Int) rfl rfl Try.underlying28 (.int .u8 0) 1 G.info5 rfl (by decide) (by decide) 0 (ok := fun _ => True) (okp := fun _ => True) rfl (fun _ hk => hk) trivial (Int.natCast_nonneg _) (by have := HL.out; rw [Int.toNat_natCast]; omega) (Below.refl _ _) (Nat.le_refl _) ?_; intro v1 w1 ho1 hb1 hg1 hn1; rw [Int.toNat_natCast] at ho1; have HO1 := Aside0.mk ho1; have HB1 := Aside0.mk hb1; clear ho1 hb1 hg1 hn1)
    | ((with_reducible refine gate_builtin (b := .copy) (xs := #[.tmp 7, .tmp 8]) rfl ?_); refine Kd.R_copy (0 : Int) (w0 := W) W.heap.size rfl (.tmp 7) (.tmp 8) 28 28 5 rfl Try.underlying28 (by kernel_rfl) v1 (List.replicate l.length 0) l A l.length c (fun _ => True) rfl rfl HO1.out (Kd.C_below HR.out HB1.out) HB1.out HB1.out.size ?_; intro w2 ho2 hb2 hg2; have HO2 := Aside0.mk ho2; have HB2 := Aside0.mk hb2; clear ho2 hb2 hg2))
  go_ret
  refine ⟨_, rfl, ?_, HB2.out⟩
  have h2 := HO2.out
  simp only [List.length_replicate, Nat.min_self, List.take_length, List.drop_replicate, Nat.sub_self, List.replicate_zero, List.append_nil] at h2
  exact h2
section
variable {W : World} {B g : Nat} {ok : Nat → Prop} {p : PM}
theorem down_calls (h : Rep W B ok g p) : Calls Try.prog 18 #[.pointer (some ⟨g, 0, none⟩)] W fun e W' => e = .returned (.bool p.dn) ∧ W = W' := by
  obtain ⟨v0, v1, va, h⟩ := h
  obtain ⟨c0, c1, c2, c3, c4, c5, c6⟩ := dc_cells h.blk
  clear h c0 c1 c2 c3 c4 c6
  go_enter Try.func18, Try.ntmps18
  go_wp2
  go_ret
  exact ⟨rfl, rfl⟩
theorem writes_calls (h : Rep W B ok g p) : Calls Try.prog 19 #[.pointer (some ⟨g, 0, none⟩)] W fun e W' => e = .returned (.int .i64 p.wr) ∧ W = W' := by
  obtain ⟨v0, v1, va, h⟩ := h
  obtain ⟨c0, c1, c2, c3, c4, c5, c6⟩ := dc_cells h.blk
  clear h c0 c1 c2 c3 c4 c5
  go_enter Try.func19, Try.ntmps19
  go_wp2
  go_ret
  exact ⟨rfl, rfl⟩
def PM.restart (p : PM) : PM × Int := if p.dn = true then ({ p with dn := false }, 0) else (p, 53)
theorem restart_calls (h : Rep W B ok g p) : Calls Try.prog 29 #[.pointer (some ⟨g, 0, none⟩)] W fun e W' => e = .returned (.int .i64 p.restart.2) ∧ Rep W' B ok g p.restart.1 ∧ Upd W W' ok := by
  obtain ⟨v0, v1, va, h⟩ := h
  obtain ⟨c0, c1, c2, c3, c4, c5, c6⟩ := dc_cells h.blk
  have hf := blk_frozen h.blk
  have H := Aside0.mk h
  cases hd : p.dn with
  | true =>
    have e : p.restart = ({ p with dn := false }, 0) := by unfold PM.restart; rw [if_pos hd]
    rw [e]
    rw [hd] at c5
    clear h c0 c1 c2 c3 c4 c6 e hd
    go_enter Try.func29, Try.ntmps29
    go_wp2
    go_ret
    exact ⟨rfl, ⟨_, _, _, H.out.set_dn false⟩, (Upd.refl _ _).setCell (fun _ => H.out.okg) _⟩
  | false =>
    have e : p.restart = (p, 53) := by unfold PM.restart; rw [if_neg (by rw [hd]; simp)]
    rw [e]
    rw [hd] at c5
    clear h c0 c1 c2 c3 c4 c6 e hd
    go_enter Try.func29, Try.ntmps29
    go_wp2
    go_ret
    exact ⟨rfl, ⟨_, _, _, H.out⟩, Upd.refl _ _⟩
def PM.disarm (p : PM) : PM := { p with ar := [] }
theorem disarm_calls (h : Rep W B ok g p) : Calls Try.prog 27 #[.pointer (some ⟨g, 0, none⟩)] W fun e W' => (∃ v, e = .returned v) ∧ Rep W' B ok g p.disarm ∧ Upd W W' ok := by
  obtain ⟨v0, v1, va, h⟩ := h
  obtain ⟨c0, c1, c2, c3, c4, c5, c6⟩ := dc_cells h.blk
  have hf := blk_frozen h.blk
  have H := Aside0.mk h
  clear h c0 c1 c2 c3 c5 c6
  go_enter Try.func27, Try.ntmps27
  go_wp2
  first | go_end0 | skip
  exact ⟨⟨_, rfl⟩, ⟨_, _, _, H.out.set_ar _ [] (Kd.Q_nil _ _ _ _ _)⟩, (Upd.refl _ _).setCell (fun _ => H.out.okg) _⟩
theorem new_calls (W : World) (hB : B ≤ W.heap.size) : Calls Try.prog 12 #[] W fun e W' => e = .returned (.pointer (some ⟨W.heap.size, 0, none⟩)) ∧ Rep W' B (fun k => k = W.heap.size) W.heap.size ⟨[], 0, [], 0, [], false, 0⟩ ∧ Below W.heap.size W W' := by
  go_enter Try.func12, Try.ntmps12
  go_wp2
  go_ret
  refine ⟨rfl, ⟨_, _, _, heap_alloc_new W _, Kd.R_nil _ _ _ _ _, Kd.R_nil _ _ _ _ _, Kd.Q_nil _ _ _ _ _, rfl, hB⟩, below_alloc (Below.refl _ _) _⟩
end
end Go.Proofs.Yticokogggepfoaa.D
namespace Go.Proofs.Yticokogggepfoaa.D
open Go.RowKit Go.Proofs.YticokogggepfoaaW.PrintWords Go.Proofs.YticokogggepfoaaW.PrintLast Go.Proofs.YticokogggepfoaaW.PrintMore
attribute [local go_sem] max2_int min2_int max_two min_two max_three min_three max_four min_four
set_option linter.unusedVariables false
set_option linter.unusedSimpArgs false
set_option maxRecDepth 100000
def PM.all (p : PM) (n : Int) : List Int := if n = 0 then p.b0 else p.b1
def PM.sync (p : PM) (n : Int) : Nat := if n = 0 then p.s0 else p.s1
def badF (n : Int) : Prop := n < 0 ∨ 2 ≤ n
instance (n : Int) : Decidable (badF n) := inferInstanceAs (Decidable (n < 0 ∨ 2 ≤ n))
def PM.read (p : PM) (n : Int) : List Int × Int := if badF n then ([], 50) else if p.dn = true then ([], 51) else (p.all n, 0)
def PM.dur (p : PM) (n : Int) : List Int × Int := if badF n then ([], 50) else ((p.all n).take (p.sync n), 0)
theorem fresh_nil (W : World) : Fresh W [] (.slice none 0 0) W := ⟨Kd.R_nil _ _ _ _ _, Below.refl _ _⟩
theorem badF_not {n : Int} (h : ¬ badF n) : n = 0 ∨ n = 1 := by unfold badF at h; omega
section
variable {W : World} {B g : Nat} {ok : Nat → Prop} {p : PM}
theorem read_calls (h : Rep W B ok g p) (hp : p.ok) (n : Int) : Calls Try.prog 31 #[.pointer (some ⟨g, 0, none⟩), .int .i64 n] W fun e W' => ∃ v, e = .returned (.tuple #[v, .int .i64 (p.read n).2]) ∧ Fresh W (p.read n).1 v W' := by
  obtain ⟨v0, v1, va, h⟩ := h
  by_cases hb : badF n
  · have e : p.read n = ([], 50) := by unfold PM.read; rw [if_pos hb]
    rw [e]
    have HB := Aside0.mk (show n < 0 ∨ 2 ≤ n from hb)
    clear h hp hb e
    go_enter Try.func31, Try.ntmps31
    go_wp2_with (go_at_call 32; (with_reducible refine (file_bad _ _ HB.out _).mono ?_); rintro e w' ⟨rfl, rfl⟩)
    go_ret2
    exact ⟨_, rfl, fresh_nil _⟩
  have hn := badF_not hb
  cases hd : p.dn with
  | true =>
    have e : p.read n = ([], 51) := by unfold PM.read; rw [if_neg hb, if_pos hd]
    rw [e]
    have H := Aside0.mk h
    have HD := Aside0.mk hd
    have HN := Aside0.mk hn
    clear h hp hb e hd hn
    go_enter Try.func31, Try.ntmps31
    go_wp2_with (go_at_call 32; (with_reducible refine (file_down _ (by have := HN.out; omega) (by have := HN.out; omega) H.out HD.out).mono ?_); rintro e w' ⟨rfl, rfl⟩)
    go_ret2
    exact ⟨_, rfl, fresh_nil _⟩
  | false =>
    have e : p.read n = (p.all n, 0) := by unfold PM.read; rw [if_neg hb, if_neg (by rw [hd]; simp)]
    rw [e]
    obtain ⟨c0, c1, c2, c3, c4, c5, c6⟩ := dc_cells h.blk
    have H := Aside0.mk h
    have HD := Aside0.mk hd
    obtain ⟨A0, n0, rfl, hn0⟩ := Kd.R_slice_len h.r0
    obtain ⟨A1, n1, rfl, hn1⟩ := Kd.R_slice_len h.r1
    have hC0 := Aside0.mk (Kd.R_reads' h.r0).2.2
    have hC1 := Aside0.mk (Kd.R_reads' h.r1).2.2
    have HP := Aside0.mk hp
    clear h hb e hd c1 c3 c4 c5 c6 hp
    rcases hn with rfl | rfl
    · show Calls Try.prog 31 #[.pointer (some ⟨g, 0, none⟩), .int .i64 0] W fun e W' => ∃ v, e = .returned (.tuple #[v, .int .i64 0]) ∧ Fresh W p.b0 v W'
      go_enter Try.func31, Try.ntmps31
      go_wp2_with (first | (go_at_call 32; (with_reducible refine (file_up 0 (by omega) (by omega) H.out HD.out).mono ?_); rintro e w' ⟨rfl, rfl⟩) | (go_at_call 35; (with_reducible refine (fresh_calls A0 n0 p.b0 _ hC0.out (by have := HP.out.l0; omega)).mono ?_); rintro e w' ⟨v, rfl, hf⟩))
      go_ret2
      exact ⟨_, rfl, hf⟩
    · show Calls Try.prog 31 #[.pointer (some ⟨g, 0, none⟩), .int .i64 1] W fun e W' => ∃ v, e = .returned (.tuple #[v, .int .i64 0]) ∧ Fresh W p.b1 v W'
      go_enter Try.func31, Try.ntmps31
      go_wp2_with (first | (go_at_call 32; (with_reducible refine (file_up 1 (by omega) (by omega) H.out HD.out).mono ?_); rintro e w' ⟨rfl, rfl⟩) | (go_at_call 35; (with_reducible refine (fresh_calls A1 n1 p.b1 _ hC1.out (by have := HP.out.l1; omega)).mono ?_); rintro e w' ⟨v, rfl, hf⟩))
      go_ret2
      exact ⟨_, rfl, hf⟩
theorem Fresh.lower {W W1 W2 : World} {l : List Int} {v : Value} (h : Fresh W1 l v W2) (hb : Below W.heap.size W W1) : Fresh W l v W2 := ⟨Kd.R_lower h.1 hb.size, hb.trans (h.2.mono hb.size)⟩
theorem fresh_calls' (A : Option Addr) (c n : Nat) (l : List Int) (W : World) (hn : l.length = n) (hr : Kd.C By W A l.length l) (hl : l.length ≤ 140737488355328) :
    Calls Try.prog 35 #[.slice A n c] W fun e W' => ∃ v, e = .returned v ∧ Fresh W l v W' := by subst hn; exact fresh_calls A c l W hr hl
theorem dur_calls (h : Rep W B ok g p) (hp : p.ok) (n : Int) : Calls Try.prog 17 #[.pointer (some ⟨g, 0, none⟩), .int .i64 n] W fun e W' => ∃ v, e = .returned (.tuple #[v, .int .i64 (p.dur n).2]) ∧ Fresh W (p.dur n).1 v W' := by
  obtain ⟨v0, v1, va, h⟩ := h
  by_cases hb : badF n
  · have e : p.dur n = ([], 50) := by unfold PM.dur; rw [if_pos hb]
    rw [e]
    rcases hb with hb | hb
    · have h2 : decide (n < 0) = true := decide_eq_true hb
      clear h hp e hb
      go_enter Try.func17, Try.ntmps17
      go_wp2
      go_ret2
      exact ⟨_, rfl, fresh_nil _⟩
    · have h2 : decide (n < 0) = false := decide_eq_false (by omega)
      have h3 : decide (2 ≤ n) = true := decide_eq_true hb
      clear h hp e hb
      go_enter Try.func17, Try.ntmps17
      go_wp2
      go_ret2
      exact ⟨_, rfl, fresh_nil _⟩
  have hn := badF_not hb
  have e : p.dur n = ((p.all n).take (p.sync n), 0) := by unfold PM.dur; rw [if_neg hb]
  rw [e]
  obtain ⟨c0, c1, c2, c3, c4, c5, c6⟩ := dc_cells h.blk
  obtain ⟨A0, n0, rfl, hn0⟩ := Kd.R_slice_len h.r0
  obtain ⟨A1, n1, rfl, hn1⟩ := Kd.R_slice_len h.r1
  have e0 : (p.b0.take p.s0).length = p.s0 := by rw [List.length_take]; have := hp.h0; omega
  have e1 : (p.b1.take p.s1).length = p.s1 := by rw [List.length_take]; have := hp.h1; omega
  have h0 := Kd.R_take h.r0 hp.h0
  have h1 := Kd.R_take h.r1 hp.h1
  have hC0 := (Kd.R_reads' h0).2.2
  have hC1 := (Kd.R_reads' h1).2.2
  obtain ⟨i0_, hi0_, _, _, _⟩ := info_parts G.info5
  have hcut0 := cut_to (P := Try.prog) 28 5 .i64 Try.underlying28 hi0_ A0 p.b0.length n0 (p.s0 : Int) (by omega) (by have := hp.h0; omega) hn0
  have hcut1 := cut_to (P := Try.prog) 28 5 .i64 Try.underlying28 hi0_ A1 p.b1.length n1 (p.s1 : Int) (by omega) (by have := hp.h1; omega) hn1
  rw [Int.toNat_natCast] at hcut0 hcut1
  have HC0 := Aside0.mk hC0
  have HC1 := Aside0.mk hC1
  have E0 := Aside0.mk e0
  have E1 := Aside0.mk e1
  have HP := Aside0.mk hp
  have h5 := Aside0.mk (below_alloc (Below.refl W.heap.size W) (.cells #[.slice A0 p.b0.length n0, .int .i64 p.s0] 55))
  have h6 := Aside0.mk (below_alloc (Below.refl W.heap.size W) (.cells #[.slice A1 p.b1.length n1, .int .i64 p.s1] 55))
  clear h hb e c4 c5 c6 hp h0 h1 hC0 hC1 hi0_ e0 e1
  rcases hn with rfl | rfl
  · show Calls Try.prog 17 #[.pointer (some ⟨g, 0, none⟩), .int .i64 0] W fun e W' => ∃ v, e = .returned (.tuple #[v, .int .i64 0]) ∧ Fresh W (p.b0.take p.s0) v W'
    clear hcut1 c2 c3
    go_enter Try.func17, Try.ntmps17
    go_wp2_with (go_at_call 35; (with_reducible refine (fresh_calls' A0 n0 p.s0 (p.b0.take p.s0) _ E0.out (Kd.C_below HC0.out h5.out) (by have := HP.out.h0; have := HP.out.l0; rw [List.length_take]; omega)).mono ?_); rintro e w' ⟨v, rfl, hf⟩)
    go_ret2
    exact ⟨_, rfl, hf.lower h5.out⟩
  · show Calls Try.prog 17 #[.pointer (some ⟨g, 0, none⟩), .int .i64 1] W fun e W' => ∃ v, e = .returned (.tuple #[v, .int .i64 0]) ∧ Fresh W (p.b1.take p.s1) v W'
    clear hcut0 c0 c1
    go_enter Try.func17, Try.ntmps17
    go_wp2_with (go_at_call 35; (with_reducible refine (fresh_calls' A1 n1 p.s1 (p.b1.take p.s1) _ E1.out (Kd.C_below HC1.out h6.out) (by have := HP.out.h1; have := HP.out.l1; rw [List.length_take]; omega)).mono ?_); rintro e w' ⟨v, rfl, hf⟩)
    go_ret2
    exact ⟨_, rfl, hf.lower h6.out⟩
end
end Go.Proofs.Yticokogggepfoaa.D
namespace Go.Proofs.Yticokogggepfoaa.D
open Go.RowKit Go.Proofs.YticokogggepfoaaW.PrintWords Go.Proofs.YticokogggepfoaaW.PrintLast Go.Proofs.YticokogggepfoaaW.PrintMore
attribute [local go_sem] max2_int min2_int max_two min_two max_three min_three max_four min_four
set_option linter.unusedVariables false
set_option linter.unusedSimpArgs false
set_option maxRecDepth 100000
def badA (a k : Int) : Prop := a < 1 ∨ 1000000 < a ∨ k < 0 ∨ 16777216 < k
instance (a k : Int) : Decidable (badA a k) := inferInstanceAs (Decidable (a < 1 ∨ 1000000 < a ∨ k < 0 ∨ 16777216 < k))
def PM.arm (p : PM) (a k : Int) : PM × Int := if badA a k then (p, 2) else if 64 ≤ p.ar.length then (p, 1) else ({ p with ar := p.ar ++ [(a, k)] }, 0)
variable {W : World} {B g : Nat} {ok : Nat → Prop} {p : PM}
theorem cr_M (W : World) (B : Nat) (o : Nat → Prop) (a k : Int) : Kd.M Cr W B o (a, k) [.int .i64 a, .int .i64 k] := ⟨[.int .i64 a], [.int .i64 k], rfl, rfl, rfl⟩
theorem arm_calls (h : Rep W B ok g p) (hp : p.ok) (hBW : B ≤ W.heap.size) (a k : Int) : Calls Try.prog 13 #[.pointer (some ⟨g, 0, none⟩), .int .i64 a, .int .i64 k] W fun e W' => e = .returned (.int .i64 (p.arm a k).2) ∧ Rep W' B (fun k => ok k ∨ W.heap.size ≤ k) g (p.arm a k).1 ∧ Upd W W' ok := by
  by_cases hb : badA a k
  · have e : p.arm a k = (p, 2) := by unfold PM.arm; rw [if_pos hb]
    rw [e]
    have hg : Rep W B (fun k => ok k ∨ W.heap.size ≤ k) g p ∧ Upd W W ok := ⟨h.mono (fun _ hk => .inl hk), Upd.refl _ _⟩
    clear h hp e
    by_cases b1 : a < 1
    · have d1 : decide (a < 1) = true := decide_eq_true b1
      clear hb b1
      go_enter Try.func13, Try.ntmps13
      go_wp2
      go_ret
      exact ⟨rfl, hg⟩
    have d1 : decide (a < 1) = false := decide_eq_false b1
    by_cases b2 : 1000000 < a
    · have d2 : decide (1000000 < a) = true := decide_eq_true b2
      clear hb b1 b2
      go_enter Try.func13, Try.ntmps13
      go_wp2
      go_ret
      exact ⟨rfl, hg⟩
    have d2 : decide (1000000 < a) = false := decide_eq_false b2
    by_cases b3 : k < 0
    · have d3 : decide (k < 0) = true := decide_eq_true b3
      clear hb b1 b2 b3
      go_enter Try.func13, Try.ntmps13
      go_wp2
      go_ret
      exact ⟨rfl, hg⟩
    have d3 : decide (k < 0) = false := decide_eq_false b3
    have d4 : decide (16777216 < k) = true := decide_eq_true (by unfold badA at hb; omega)
    clear hb b1 b2 b3
    go_enter Try.func13, Try.ntmps13
    go_wp2
    go_ret
    exact ⟨rfl, hg⟩
  have d1 : decide (a < 1) = false := decide_eq_false (by unfold badA at hb; omega)
  have d2 : decide (1000000 < a) = false := decide_eq_false (by unfold badA at hb; omega)
  have d3 : decide (k < 0) = false := decide_eq_false (by unfold badA at hb; omega)
  have d4 : decide (16777216 < k) = false := decide_eq_false (by unfold badA at hb; omega)
  obtain ⟨v0, v1, va, h⟩ := h
  obtain ⟨c0, c1, c2, c3, c4, c5, c6⟩ := dc_cells h.blk
  have hf := blk_frozen h.blk
  obtain ⟨A, c, rfl, hc⟩ := Kd.Q_slice h.ra
  have H := Aside0.mk h
  have HP := Aside0.mk hp
  have HBW := Aside0.mk hBW
  by_cases hl : 64 ≤ p.ar.length
  · have e : p.arm a k = (p, 1) := by unfold PM.arm; rw [if_neg hb, if_pos hl]
    rw [e]
    clear h hp hc hBW c0 c1 c2 c3 c5 c6 e hb
    go_enter Try.func13, Try.ntmps13
    go_wp2
    go_ret
    exact ⟨rfl, ⟨_, _, _, H.out.mono (fun _ hk => .inl hk)⟩, Upd.refl _ _⟩
  · have e : p.arm a k = ({ p with ar := p.ar ++ [(a, k)] }, 0) := by unfold PM.arm; rw [if_neg hb, if_neg hl]
    rw [e]
    have hl2 : p.ar.length < 64 := by omega
    have d5 : decide (64 ≤ (p.ar.length : Int)) = false := decide_eq_false (by omega)
    have hl3 : (p.ar.length + 1) * 16 ≤ 140737488355328 := by omega
    have HL3 := Aside0.mk hl3
    clear h hp hc hBW c0 c1 c2 c3 c5 c6 e hb hl hl3
    go_enter Try.func13, Try.ntmps13
    go_wp2_with ((refine gate_builtin (b := .append) (xs := #[.tmp 31, .tmp 35]) rfl ?_); at_builtin; refine Kd.Q_append Cr (w0 := W) B rfl (.tmp 31) (.tmp 35) 57 61 (.agg #[.int .i64 0, .int .i64 0]) 16 rfl Try.underlying57 info61 rfl (by decide) (by decide) (.slice A p.ar.length c) p.ar (a, k) [.int .i64 a, .int .i64 k] (fun k => ok k ∨ W.heap.size ≤ k) (fun _ => False) rfl rfl (cr_M _ _ _ a k) (fun _ hk => hk.elim) (fun _ hk => .inr hk) (Kd.Q_mono H.out.ra (fun _ hk => .inl hk)) (Below.refl _ _) HBW.out HL3.out ?_; intro u1 w1 hr1 hb1 hg1 hat1; obtain ⟨A1, n1, rfl, hn1⟩ := Kd.Q_slice hr1; rw [List.length_append, List.length_singleton] at hr1; have hh := H.out.appa hr1 hg1; have hbk := blk_grown H.out.blk hg1 (Kd.Q_ne H.out.ra H.out.blk (by decide)); have HH := Aside0.mk hh; obtain ⟨x0, x1, x2, x3, x4, x5, x6⟩ := dc_cells hbk; have hf1 := blk_frozen hbk; clear hr1 hb1 hg1 hat1 hh hbk x0 x1 x2 x3 x5 x6 hn1)
    go_ret
    exact ⟨rfl, ⟨_, _, _, HH.out.1⟩, HH.out.2⟩
end Go.Proofs.Yticokogggepfoaa.D
