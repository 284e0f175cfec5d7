/- The disk of the program in memory: its block, its rows; what a call leaves. No condition. -/
import Derived.Test.YticokogggepfoaaGx0
import Derived.Test.YticokogggepfoaaGy
import Derived.Outline
import Derived.LoopTactic
import Derived.RegionTactic
namespace Go.Proofs.Yticokogggepfoaa.D
open Go.RowKit Go.Proofs.YticokogggepfoaaW.PrintWords Go.Proofs.YticokogggepfoaaW.PrintLast Go.Proofs.YticokogggepfoaaW.PrintMore
attribute [local go_sem] max2_int min2_int max_two min_two max_three min_three max_four min_four
set_option linter.unusedVariables false
set_option linter.unusedSimpArgs false
/-! ### What a call leaves: all blocks but those of S -/
structure Upd (W W' : World) (S : Nat → Prop) : Prop where
  os : W'.os = W.os
  tape : W'.tape = W.tape
  output : W'.output = W.output
  size : W.heap.size ≤ W'.heap.size
  block : ∀ i, i < W.heap.size → ¬ S i → W'.heap[i]? = W.heap[i]?
section
variable {W W1 W2 : World} {S S' S2 : Nat → Prop}
theorem Upd.refl (W : World) (S : Nat → Prop) : Upd W W S := ⟨rfl, rfl, rfl, Nat.le_refl _, fun _ _ _ => rfl⟩
theorem Upd.of_below (h : Below W.heap.size W W1) (S : Nat → Prop) : Upd W W1 S := ⟨h.os, h.tape, h.output, h.size, fun i hi _ => h.block i hi⟩
theorem Upd.mono (h : Upd W W1 S) (hs : ∀ k, k < W.heap.size → S k → S' k) : Upd W W1 S' := ⟨h.os, h.tape, h.output, h.size, fun i hi hn => h.block i hi (fun hk => hn (hs i hi hk))⟩
theorem Upd.then_ (h : Upd W W1 S) (k : Upd W1 W2 S2) (hs : ∀ k, k < W.heap.size → S2 k → S k) : Upd W W2 S :=
  ⟨k.os.trans h.os, k.tape.trans h.tape, k.output.trans h.output, Nat.le_trans h.size k.size, fun i hi hn => (k.block i (Nat.lt_of_lt_of_le hi h.size) (fun h2 => hn (hs i hi h2))).trans (h.block i hi hn)⟩
theorem Upd.grown {row : Option Nat} (h : Upd W W1 S) (hg : W1.grownBy W2 row) (hr : ∀ k, row = some k → k < W.heap.size → S k) : Upd W W2 S :=
  h.then_ (S2 := fun k => row = some k) ⟨hg.os, hg.tape, hg.output, hg.size, fun i hi hn => hg.block i hi (fun he => hn he.symm)⟩ (fun k hk h2 => hr k h2 hk)
theorem Upd.alloc (h : Upd W W1 S) (o : Obj) : Upd W (W1.alloc o) S := h.then_ (Upd.of_below (below_alloc (Below.refl _ _) o) (fun _ => False)) (fun _ _ hk => hk.elim)
theorem Upd.drew (h : Upd W W1 S) : Upd W W1.drew S := ⟨h.os, h.tape, h.output, h.size, h.block⟩
theorem Upd.drewN (h : Upd W W1 S) (n : Nat) : Upd W (W1.drewN n) S := ⟨h.os, h.tape, h.output, h.size, h.block⟩
theorem Upd.setCell (h : Upd W W1 S) {p : Addr} (hp : p.block < W.heap.size → S p.block) (u : Value) : Upd W (W1.setCell p u) S :=
  h.then_ (S2 := fun k => k = p.block) ⟨rfl, rfl, rfl, by simp [World.setCell], fun i _ hn => Below.heap_setCell W1 p u i hn⟩ (fun k hk h2 => by subst h2; exact hp hk)
theorem Upd.below (h : Upd W W1 S) {B : Nat} {w : World} (hb : Below B w W) (hS : ∀ k, S k → B ≤ k) (hB : B ≤ W.heap.size) : Below B w W1 :=
  hb.trans ⟨h.os, h.tape, h.output, h.size, fun k hk => h.block k (Nat.lt_of_lt_of_le hk hB) (fun hs => by have := hS k hs; omega)⟩
end
/-! ### The program's disk: what its block and its rows hold -/
abbrev By := Kd.int .u8
abbrev Cr := Kd.pair (Kd.int .i64) (Kd.int .i64)
def DC (v0 : Value) (s0 : Int) (v1 : Value) (s1 : Int) (va : Value) (dn : Bool) (wr : Int) : Array Value := #[v0, .int .i64 s0, v1, .int .i64 s1, va, .bool dn, .int .i64 wr]
theorem dc_cells {W : World} {g : Nat} {v0 v1 va : Value} {s0 s1 wr : Int} {dn : Bool} (h : W.heap[g]? = some (.cells (DC v0 s0 v1 s1 va dn wr) 59 (0, 0))) :
    W.cell? ⟨g, 0, none⟩ = some v0 ∧ W.cell? ⟨g, 1, none⟩ = some (.int .i64 s0) ∧ W.cell? ⟨g, 2, none⟩ = some v1 ∧ W.cell? ⟨g, 3, none⟩ = some (.int .i64 s1) ∧ W.cell? ⟨g, 4, none⟩ = some va ∧ W.cell? ⟨g, 5, none⟩ = some (.bool dn) ∧ W.cell? ⟨g, 6, none⟩ = some (.int .i64 wr) := by
  refine ⟨?_, ?_, ?_, ?_, ?_, ?_, ?_⟩ <;> exact (blk_cell h _).trans rfl
/-- The program's disk, in plain. -/
structure PM where
  b0 : List Int
  s0 : Nat
  b1 : List Int
  s1 : Nat
  ar : List (Int × Int)
  dn : Bool
  wr : Int
/-- What the fall asks. -/
structure PM.ok0 (p : PM) : Prop where
  h0 : p.s0 ≤ p.b0.length
  h1 : p.s1 ≤ p.b1.length
  l0 : p.b0.length ≤ 16777216
  l1 : p.b1.length ≤ 16777216
  hk : ∀ a ∈ p.ar, 0 ≤ a.2 ∧ a.2 ≤ 16777216
structure PM.ok (p : PM) : Prop where
  h0 : p.s0 ≤ p.b0.length
  h1 : p.s1 ≤ p.b1.length
  l0 : p.b0.length ≤ 16777216
  l1 : p.b1.length ≤ 16777216
  la : p.ar.length ≤ 64
  ha : ∀ a ∈ p.ar, 1 ≤ a.1 ∧ a.1 ≤ 1000000 ∧ 0 ≤ a.2 ∧ a.2 ≤ 16777216
theorem PM.ok.to0 {p : PM} (h : p.ok) : p.ok0 := ⟨h.h0, h.h1, h.l0, h.l1, fun a ha => ⟨(h.ha a ha).2.2.1, (h.ha a ha).2.2.2⟩⟩
structure RepV (W : World) (B : Nat) (ok : Nat → Prop) (g : Nat) (p : PM) (v0 v1 va : Value) : Prop where
  blk : W.heap[g]? = some (.cells (DC v0 p.s0 v1 p.s1 va p.dn p.wr) 59 (0, 0))
  r0 : Kd.R By 5 W B (fun k => ok k ∧ some k ≠ v1.ownBlock) v0 p.b0
  r1 : Kd.R By 5 W B (fun k => ok k ∧ some k ≠ v0.ownBlock) v1 p.b1
  ra : Kd.Q Cr 61 W B ok va p.ar
  okg : ok g
  bg : B ≤ g
def Rep (W : World) (B : Nat) (ok : Nat → Prop) (g : Nat) (p : PM) : Prop := ∃ v0 v1 va, RepV W B ok g p v0 v1 va
section
variable {W W' : World} {B g : Nat} {ok ok' S : Nat → Prop} {p : PM} {v0 v1 va : Value} {A : Option Addr} {n c : Nat}
theorem RepV.upd (h : RepV W B ok g p v0 v1 va) (hu : Upd W W' S) (hne : ∀ k, ok k → k < W.heap.size → ¬ S k) : RepV W' B ok g p v0 v1 va where
  blk := (hu.block g (blk_lt h.blk) (hne g h.okg (blk_lt h.blk))).trans h.blk
  r0 := Kd.R_step h.r0 (fun k hk hlt => hu.block k hlt (hne k hk.1 hlt))
  r1 := Kd.R_step h.r1 (fun k hk hlt => hu.block k hlt (hne k hk.1 hlt))
  ra := Kd.Q_step h.ra (fun k hk hlt => hu.block k hlt (hne k hk hlt))
  okg := h.okg
  bg := h.bg
theorem RepV.mono (h : RepV W B ok g p v0 v1 va) (hok : ∀ k, ok k → ok' k) : RepV W B ok' g p v0 v1 va :=
  ⟨h.blk, Kd.R_mono h.r0 (fun k hk => ⟨hok k hk.1, hk.2⟩), Kd.R_mono h.r1 (fun k hk => ⟨hok k hk.1, hk.2⟩), Kd.Q_mono h.ra hok, hok g h.okg, h.bg⟩
theorem RepV.bound (h : RepV W B ok g p v0 v1 va) : RepV W B (fun k => ok k ∧ B ≤ k ∧ k < W.heap.size) g p v0 v1 va :=
  ⟨h.blk, Kd.R_mono (Kd.R_bound h.r0) (fun k hk => ⟨⟨hk.1.1, hk.2.1, hk.2.2.1⟩, hk.1.2⟩), Kd.R_mono (Kd.R_bound h.r1) (fun k hk => ⟨⟨hk.1.1, hk.2.1, hk.2.2.1⟩, hk.1.2⟩), Kd.Q_mono (Kd.Q_bound h.ra) (fun k hk => ⟨hk.1, hk.2.1, hk.2.2.1⟩), ⟨h.okg, h.bg, blk_lt h.blk⟩, h.bg⟩
theorem Rep.upd (h : Rep W B ok g p) (hu : Upd W W' S) (hne : ∀ k, ok k → k < W.heap.size → ¬ S k) : Rep W' B ok g p := by obtain ⟨a, b, c, h⟩ := h; exact ⟨a, b, c, h.upd hu hne⟩
theorem Rep.mono (h : Rep W B ok g p) (hok : ∀ k, ok k → ok' k) : Rep W B ok' g p := by obtain ⟨a, b, c, h⟩ := h; exact ⟨a, b, c, h.mono hok⟩
theorem Rep.bound (h : Rep W B ok g p) : Rep W B (fun k => ok k ∧ B ≤ k ∧ k < W.heap.size) g p := by obtain ⟨a, b, c, h⟩ := h; exact ⟨a, b, c, h.bound⟩
/-- A store into the disk's own block that changes no slice. -/
theorem RepV.rows_set (h : RepV W B ok g p v0 v1 va) (j : Nat) (u : Value) :
    Kd.R By 5 (W.setCell ⟨g, j, none⟩ u) B (fun k => ok k ∧ some k ≠ v1.ownBlock) v0 p.b0 ∧ Kd.R By 5 (W.setCell ⟨g, j, none⟩ u) B (fun k => ok k ∧ some k ≠ v0.ownBlock) v1 p.b1 ∧ Kd.Q Cr 61 (W.setCell ⟨g, j, none⟩ u) B ok va p.ar :=
  ⟨Kd.R_set h.r0 h.blk (by decide) j u, Kd.R_set h.r1 h.blk (by decide) j u, Kd.Q_set h.ra h.blk (by decide) j u⟩
theorem RepV.set_wr (h : RepV W B ok g p v0 v1 va) (x : Int) : RepV (W.setCell ⟨g, 6, none⟩ (.int .i64 x)) B ok g { p with wr := x } v0 v1 va :=
  have ⟨a, b, c⟩ := h.rows_set 6 (.int .i64 x); ⟨blk_set h.blk 6 _, a, b, c, h.okg, h.bg⟩
theorem RepV.set_dn (h : RepV W B ok g p v0 v1 va) (x : Bool) : RepV (W.setCell ⟨g, 5, none⟩ (.bool x)) B ok g { p with dn := x } v0 v1 va :=
  have ⟨a, b, c⟩ := h.rows_set 5 (.bool x); ⟨blk_set h.blk 5 _, a, b, c, h.okg, h.bg⟩
theorem RepV.set_s0 (h : RepV W B ok g p v0 v1 va) (x : Nat) : RepV (W.setCell ⟨g, 1, none⟩ (.int .i64 x)) B ok g { p with s0 := x } v0 v1 va :=
  have ⟨a, b, c⟩ := h.rows_set 1 (.int .i64 x); ⟨blk_set h.blk 1 _, a, b, c, h.okg, h.bg⟩
theorem RepV.set_s1 (h : RepV W B ok g p v0 v1 va) (x : Nat) : RepV (W.setCell ⟨g, 3, none⟩ (.int .i64 x)) B ok g { p with s1 := x } v0 v1 va :=
  have ⟨a, b, c⟩ := h.rows_set 3 (.int .i64 x); ⟨blk_set h.blk 3 _, a, b, c, h.okg, h.bg⟩
theorem RepV.set_ar (h : RepV W B ok g p v0 v1 va) (u : Value) (ar : List (Int × Int)) (hu : Kd.Q Cr 61 W B ok u ar) : RepV (W.setCell ⟨g, 4, none⟩ u) B ok g { p with ar := ar } v0 v1 u :=
  have ⟨a, b, c⟩ := h.rows_set 4 u; ⟨blk_set h.blk 4 _, a, b, Kd.Q_set hu h.blk (by decide) 4 u, h.okg, h.bg⟩
/-- A file's first bytes alone. -/
theorem RepV.cut0 (h : RepV W B ok g p (.slice A n c) v1 va) (m : Nat) (hm : m ≤ p.b0.length) : RepV (W.setCell ⟨g, 0, none⟩ (.slice A m c)) B ok g { p with b0 := p.b0.take m } (.slice A m c) v1 va := by
  have ⟨a, b, c'⟩ := h.rows_set 0 (.slice A m c)
  exact ⟨blk_set h.blk 0 _, Kd.R_take a hm, Kd.R_mono b (fun k hk => ⟨hk.1, by cases A <;> exact hk.2⟩), c', h.okg, h.bg⟩
theorem RepV.cut1 (h : RepV W B ok g p v0 (.slice A n c) va) (m : Nat) (hm : m ≤ p.b1.length) : RepV (W.setCell ⟨g, 2, none⟩ (.slice A m c)) B ok g { p with b1 := p.b1.take m } v0 (.slice A m c) va := by
  have ⟨a, b, c'⟩ := h.rows_set 2 (.slice A m c)
  exact ⟨blk_set h.blk 2 _, Kd.R_mono a (fun k hk => ⟨hk.1, by cases A <;> exact hk.2⟩), Kd.R_take b hm, c', h.okg, h.bg⟩
/-- An append to a file's row: the row may be another one then. -/
theorem RepV.app0 {w1 : World} {u : Value} {xs : List Int} (h : RepV W B ok g p v0 v1 va) (hr : Kd.R By 5 w1 B (fun k => (ok k ∨ W.heap.size ≤ k) ∧ some k ≠ v1.ownBlock) u xs) (hg : W.grownBy w1 v0.ownBlock)
    (hat : u.ownBlock = v0.ownBlock ∨ ∃ b, u.ownBlock = some b ∧ W.heap.size ≤ b) : RepV (w1.setCell ⟨g, 0, none⟩ u) B (fun k => ok k ∨ W.heap.size ≤ k) g { p with b0 := xs } u v1 va ∧ Upd W (w1.setCell ⟨g, 0, none⟩ u) ok := by
  have hne : some g ≠ v0.ownBlock := Kd.R_ne h.r0 h.blk (by decide)
  have hb : w1.heap[g]? = some (.cells (DC v0 p.s0 v1 p.s1 va p.dn p.wr) 59 (0, 0)) := blk_grown h.blk hg hne
  have r1 : Kd.R By 5 w1 B (fun k => (ok k ∨ W.heap.size ≤ k) ∧ some k ≠ u.ownBlock) v1 p.b1 := by
    refine Kd.R_mono (Kd.R_step (Kd.R_bound h.r1) (fun k hk _ => hg.block k hk.2.2.1 hk.1.2)) (fun k hk => ⟨.inl hk.1.1, ?_⟩)
    rcases hat with he | ⟨b, he, hle⟩
    · rw [he]; exact hk.1.2
    · rw [he]; intro h2; injection h2 with h2; have := hk.2.2.1; omega
  have ra : Kd.Q Cr 61 w1 B (fun k => ok k ∨ W.heap.size ≤ k) va p.ar := Kd.Q_mono (Kd.Q_over' h.ra (Kd.R_typed h.r0) (by decide) hg) (fun k hk => .inl hk)
  refine ⟨⟨blk_set hb 0 _, Kd.R_set hr hb (by decide) 0 _, Kd.R_set r1 hb (by decide) 0 _, Kd.Q_set ra hb (by decide) 0 _, .inl h.okg, h.bg⟩, ?_⟩
  exact ((Upd.refl W ok).grown hg (fun k hk _ => (h.r0.1 k hk).1)).setCell (fun _ => h.okg) _
theorem RepV.app1 {w1 : World} {u : Value} {xs : List Int} (h : RepV W B ok g p v0 v1 va) (hr : Kd.R By 5 w1 B (fun k => (ok k ∨ W.heap.size ≤ k) ∧ some k ≠ v0.ownBlock) u xs) (hg : W.grownBy w1 v1.ownBlock)
    (hat : u.ownBlock = v1.ownBlock ∨ ∃ b, u.ownBlock = some b ∧ W.heap.size ≤ b) : RepV (w1.setCell ⟨g, 2, none⟩ u) B (fun k => ok k ∨ W.heap.size ≤ k) g { p with b1 := xs } v0 u va ∧ Upd W (w1.setCell ⟨g, 2, none⟩ u) ok := by
  have hne : some g ≠ v1.ownBlock := Kd.R_ne h.r1 h.blk (by decide)
  have hb : w1.heap[g]? = some (.cells (DC v0 p.s0 v1 p.s1 va p.dn p.wr) 59 (0, 0)) := blk_grown h.blk hg hne
  have r0 : Kd.R By 5 w1 B (fun k => (ok k ∨ W.heap.size ≤ k) ∧ some k ≠ u.ownBlock) v0 p.b0 := by
    refine Kd.R_mono (Kd.R_step (Kd.R_bound h.r0) (fun k hk _ => hg.block k hk.2.2.1 hk.1.2)) (fun k hk => ⟨.inl hk.1.1, ?_⟩)
    rcases hat with he | ⟨b, he, hle⟩
    · rw [he]; exact hk.1.2
    · rw [he]; intro h2; injection h2 with h2; have := hk.2.2.1; omega
  have ra : Kd.Q Cr 61 w1 B (fun k => ok k ∨ W.heap.size ≤ k) va p.ar := Kd.Q_mono (Kd.Q_over' h.ra (Kd.R_typed h.r1) (by decide) hg) (fun k hk => .inl hk)
  refine ⟨⟨blk_set hb 2 _, Kd.R_set r0 hb (by decide) 2 _, Kd.R_set hr hb (by decide) 2 _, Kd.Q_set ra hb (by decide) 2 _, .inl h.okg, h.bg⟩, ?_⟩
  exact ((Upd.refl W ok).grown hg (fun k hk _ => (h.r1.1 k hk).1)).setCell (fun _ => h.okg) _
/-- An append to the row of crashes. -/
theorem RepV.appa {w1 : World} {u : Value} {ar : List (Int × Int)} (h : RepV W B ok g p v0 v1 va) (hr : Kd.Q Cr 61 w1 B (fun k => ok k ∨ W.heap.size ≤ k) u ar) (hg : W.grownBy w1 va.ownBlock) :
    RepV (w1.setCell ⟨g, 4, none⟩ u) B (fun k => ok k ∨ W.heap.size ≤ k) g { p with ar := ar } v0 v1 u ∧ Upd W (w1.setCell ⟨g, 4, none⟩ u) ok := by
  have hne : some g ≠ va.ownBlock := Kd.Q_ne h.ra h.blk (by decide)
  have hb : w1.heap[g]? = some (.cells (DC v0 p.s0 v1 p.s1 va p.dn p.wr) 59 (0, 0)) := blk_grown h.blk hg hne
  have ht := Kd.Q_typed h.ra
  have over : ∀ {o : Nat → Prop} {v : Value} {xs : List Int}, Kd.R By 5 W B o v xs → Kd.R By 5 w1 B o v xs := fun {o v xs} hv => by
    refine Kd.R_mono (Kd.R_step (Kd.R_bound hv) (fun k hk _ => hg.block k hk.2.2.1 (fun he => ?_))) (fun k hk => hk.1)
    obtain ⟨q, hq, cs, hc⟩ := hk.2.2.2
    obtain ⟨cs', hc'⟩ := ht k he.symm
    have h3 := Option.some.inj (hc.symm.trans hc')
    simp only [Obj.cells.injEq] at h3
    have h4 := h3.2.1
    subst h4
    exact absurd hq (by decide)
  refine ⟨⟨blk_set hb 4 _, Kd.R_set (Kd.R_mono (over h.r0) (fun k hk => ⟨.inl hk.1, hk.2⟩)) hb (by decide) 4 _, Kd.R_set (Kd.R_mono (over h.r1) (fun k hk => ⟨.inl hk.1, hk.2⟩)) hb (by decide) 4 _, Kd.Q_set hr hb (by decide) 4 _, .inl h.okg, h.bg⟩, ?_⟩
  exact ((Upd.refl W ok).grown hg (fun k hk _ => h.ra.1 k hk)).setCell (fun _ => h.okg) _
end
end Go.Proofs.Yticokogggepfoaa.D
