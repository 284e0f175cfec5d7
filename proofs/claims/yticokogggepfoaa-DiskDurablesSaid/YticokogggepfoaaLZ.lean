/- A pair of disks, the program's and the document's: its boxes, a step on it. order: a step of the kinds from 7 up on both disks. No condition but that both are whole and alike. write: a step of the kinds 1 to 4 on both disks. No condition but that both are whole and alike. write: Append of what is handed in, on both disks. No condition but that both are whole and alike. write and order, of all kinds: a step on both disks. No condition but that both are whole and alike. held: answers that are still full of their marks are told so. No condition but the number of answers. No condition but what is said. -/
import Derived.Test.YticokogggepfoaaLM
import Derived.Test.YticokogggepfoaaRK
import Derived.Deep.DrawnRows
namespace Go.Proofs.Yticokogggepfoaa.D
open Go.RowKit Go.Proofs.YticokogggepfoaaW.PrintWords Go.Proofs.YticokogggepfoaaW.PrintLast Go.Proofs.YticokogggepfoaaW.PrintMore Go.Proofs.Yticokogggepfoaa.G
attribute [local go_sem] max2_int min2_int max_two min_two max_three min_three max_four min_four
set_option linter.unusedVariables false
set_option linter.unusedSimpArgs false
set_option maxRecDepth 100000
attribute [local go_sem ↓] Go.wp_at_zero Go.wp_at_succ
@[reducible] def PV (g : Nat) (s : RS) (m : RM) : Array Value := #[.pointer (some ⟨g, 0, none⟩), .slice s.D0 m.d0.length s.D0c, .slice s.D1 m.d1.length s.D1c, .slice s.P0 m.p0.length s.P0c, .slice s.P1 m.p1.length s.P1c, .slice s.Ar m.ar.length s.Arc, .int .i64 m.cnt, .bool m.dn, .int .i64 m.wr]
@[reducible] def zero71 : Array Value := #[.pointer none, .slice none 0 0, .slice none 0 0, .slice none 0 0, .slice none 0 0, .slice none 0 0, .int .i64 0, .bool false, .int .i64 0]
theorem pv_cells {w : World} {b g : Nat} {s : RS} {m : RM} (h : w.heap[b]? = some (.cells (PV g s m) 71 (0, 0))) : w.cell? ⟨b, 0, none⟩ = some (.pointer (some ⟨g, 0, none⟩)) ∧ w.cell? ⟨b, 1, none⟩ = some (.slice s.D0 m.d0.length s.D0c) ∧ w.cell? ⟨b, 2, none⟩ = some (.slice s.D1 m.d1.length s.D1c) ∧ w.cell? ⟨b, 3, none⟩ = some (.slice s.P0 m.p0.length s.P0c) ∧ w.cell? ⟨b, 4, none⟩ = some (.slice s.P1 m.p1.length s.P1c) ∧ w.cell? ⟨b, 5, none⟩ = some (.slice s.Ar m.ar.length s.Arc) ∧ w.cell? ⟨b, 6, none⟩ = some (.int .i64 m.cnt) ∧ w.cell? ⟨b, 7, none⟩ = some (.bool m.dn) ∧ w.cell? ⟨b, 8, none⟩ = some (.int .i64 m.wr) := by
  refine ⟨?_, ?_, ?_, ?_, ?_, ?_, ?_, ?_, ?_⟩ <;> exact (blk_cell h _).trans rfl
theorem z71_cells {w : World} {b : Nat} (h : w.heap[b]? = some (.cells zero71 71 (0, 0))) : w.cell? ⟨b, 0, none⟩ = some (.pointer none) ∧ w.cell? ⟨b, 1, none⟩ = some (.slice none 0 0) ∧ w.cell? ⟨b, 2, none⟩ = some (.slice none 0 0) ∧ w.cell? ⟨b, 3, none⟩ = some (.slice none 0 0) ∧ w.cell? ⟨b, 4, none⟩ = some (.slice none 0 0) ∧ w.cell? ⟨b, 5, none⟩ = some (.slice none 0 0) ∧ w.cell? ⟨b, 6, none⟩ = some (.int .i64 0) ∧ w.cell? ⟨b, 7, none⟩ = some (.bool false) ∧ w.cell? ⟨b, 8, none⟩ = some (.int .i64 0) := by
  refine ⟨?_, ?_, ?_, ?_, ?_, ?_, ?_, ?_, ?_⟩ <;> exact (blk_cell h _).trans rfl
theorem pv_put {w : World} {b g : Nat} {s s' : RS} {m m' : RM} (h : w.heap[b]? = some (.cells (PV g s m) 71 (0, 0))) : ((((((((w.setCell ⟨b, 1, none⟩ (.slice s'.D0 m'.d0.length s'.D0c)).setCell ⟨b, 2, none⟩ (.slice s'.D1 m'.d1.length s'.D1c)).setCell ⟨b, 3, none⟩ (.slice s'.P0 m'.p0.length s'.P0c)).setCell ⟨b, 4, none⟩ (.slice s'.P1 m'.p1.length s'.P1c)).setCell ⟨b, 5, none⟩ (.slice s'.Ar m'.ar.length s'.Arc)).setCell ⟨b, 6, none⟩ (.int .i64 m'.cnt)).setCell ⟨b, 7, none⟩ (.bool m'.dn)).setCell ⟨b, 8, none⟩ (.int .i64 m'.wr)).heap[b]? = some (.cells (PV g s' m') 71 (0, 0)) := by
  have h1 := blk_put (cs' := #[.pointer (some ⟨g, 0, none⟩), .slice s'.D0 m'.d0.length s'.D0c, .slice s.D1 m.d1.length s.D1c, .slice s.P0 m.p0.length s.P0c, .slice s.P1 m.p1.length s.P1c, .slice s.Ar m.ar.length s.Arc, .int .i64 m.cnt, .bool m.dn, .int .i64 m.wr]) h 1 (.slice s'.D0 m'.d0.length s'.D0c) rfl
  have h2 := blk_put (cs' := #[.pointer (some ⟨g, 0, none⟩), .slice s'.D0 m'.d0.length s'.D0c, .slice s'.D1 m'.d1.length s'.D1c, .slice s.P0 m.p0.length s.P0c, .slice s.P1 m.p1.length s.P1c, .slice s.Ar m.ar.length s.Arc, .int .i64 m.cnt, .bool m.dn, .int .i64 m.wr]) h1 2 (.slice s'.D1 m'.d1.length s'.D1c) rfl
  have h3 := blk_put (cs' := #[.pointer (some ⟨g, 0, none⟩), .slice s'.D0 m'.d0.length s'.D0c, .slice s'.D1 m'.d1.length s'.D1c, .slice s'.P0 m'.p0.length s'.P0c, .slice s.P1 m.p1.length s.P1c, .slice s.Ar m.ar.length s.Arc, .int .i64 m.cnt, .bool m.dn, .int .i64 m.wr]) h2 3 (.slice s'.P0 m'.p0.length s'.P0c) rfl
  have h4 := blk_put (cs' := #[.pointer (some ⟨g, 0, none⟩), .slice s'.D0 m'.d0.length s'.D0c, .slice s'.D1 m'.d1.length s'.D1c, .slice s'.P0 m'.p0.length s'.P0c, .slice s'.P1 m'.p1.length s'.P1c, .slice s.Ar m.ar.length s.Arc, .int .i64 m.cnt, .bool m.dn, .int .i64 m.wr]) h3 4 (.slice s'.P1 m'.p1.length s'.P1c) rfl
  have h5 := blk_put (cs' := #[.pointer (some ⟨g, 0, none⟩), .slice s'.D0 m'.d0.length s'.D0c, .slice s'.D1 m'.d1.length s'.D1c, .slice s'.P0 m'.p0.length s'.P0c, .slice s'.P1 m'.p1.length s'.P1c, .slice s'.Ar m'.ar.length s'.Arc, .int .i64 m.cnt, .bool m.dn, .int .i64 m.wr]) h4 5 (.slice s'.Ar m'.ar.length s'.Arc) rfl
  have h6 := blk_put (cs' := #[.pointer (some ⟨g, 0, none⟩), .slice s'.D0 m'.d0.length s'.D0c, .slice s'.D1 m'.d1.length s'.D1c, .slice s'.P0 m'.p0.length s'.P0c, .slice s'.P1 m'.p1.length s'.P1c, .slice s'.Ar m'.ar.length s'.Arc, .int .i64 m'.cnt, .bool m.dn, .int .i64 m.wr]) h5 6 (.int .i64 m'.cnt) rfl
  have h7 := blk_put (cs' := #[.pointer (some ⟨g, 0, none⟩), .slice s'.D0 m'.d0.length s'.D0c, .slice s'.D1 m'.d1.length s'.D1c, .slice s'.P0 m'.p0.length s'.P0c, .slice s'.P1 m'.p1.length s'.P1c, .slice s'.Ar m'.ar.length s'.Arc, .int .i64 m'.cnt, .bool m'.dn, .int .i64 m.wr]) h6 7 (.bool m'.dn) rfl
  have h8 := blk_put (cs' := #[.pointer (some ⟨g, 0, none⟩), .slice s'.D0 m'.d0.length s'.D0c, .slice s'.D1 m'.d1.length s'.D1c, .slice s'.P0 m'.p0.length s'.P0c, .slice s'.P1 m'.p1.length s'.P1c, .slice s'.Ar m'.ar.length s'.Arc, .int .i64 m'.cnt, .bool m'.dn, .int .i64 m'.wr]) h7 8 (.int .i64 m'.wr) rfl
  exact h8
theorem z71_put {w : World} {b : Nat} {v0 v1 v2 v3 v4 v5 v6 v7 v8 : Value} (h : w.heap[b]? = some (.cells zero71 71 (0, 0))) : (((((((((w.setCell ⟨b, 0, none⟩ (v0)).setCell ⟨b, 1, none⟩ (v1)).setCell ⟨b, 2, none⟩ (v2)).setCell ⟨b, 3, none⟩ (v3)).setCell ⟨b, 4, none⟩ (v4)).setCell ⟨b, 5, none⟩ (v5)).setCell ⟨b, 6, none⟩ (v6)).setCell ⟨b, 7, none⟩ (v7)).setCell ⟨b, 8, none⟩ (v8)).heap[b]? = some (.cells #[v0, v1, v2, v3, v4, v5, v6, v7, v8] 71 (0, 0)) := by
  have h1 := blk_put (cs' := #[v0, .slice none 0 0, .slice none 0 0, .slice none 0 0, .slice none 0 0, .slice none 0 0, .int .i64 0, .bool false, .int .i64 0]) h 0 (v0) rfl
  have h2 := blk_put (cs' := #[v0, v1, .slice none 0 0, .slice none 0 0, .slice none 0 0, .slice none 0 0, .int .i64 0, .bool false, .int .i64 0]) h1 1 (v1) rfl
  have h3 := blk_put (cs' := #[v0, v1, v2, .slice none 0 0, .slice none 0 0, .slice none 0 0, .int .i64 0, .bool false, .int .i64 0]) h2 2 (v2) rfl
  have h4 := blk_put (cs' := #[v0, v1, v2, v3, .slice none 0 0, .slice none 0 0, .int .i64 0, .bool false, .int .i64 0]) h3 3 (v3) rfl
  have h5 := blk_put (cs' := #[v0, v1, v2, v3, v4, .slice none 0 0, .int .i64 0, .bool false, .int .i64 0]) h4 4 (v4) rfl
  have h6 := blk_put (cs' := #[v0, v1, v2, v3, v4, v5, .int .i64 0, .bool false, .int .i64 0]) h5 5 (v5) rfl
  have h7 := blk_put (cs' := #[v0, v1, v2, v3, v4, v5, v6, .bool false, .int .i64 0]) h6 6 (v6) rfl
  have h8 := blk_put (cs' := #[v0, v1, v2, v3, v4, v5, v6, v7, .int .i64 0]) h7 7 (v7) rfl
  have h9 := blk_put (cs' := #[v0, v1, v2, v3, v4, v5, v6, v7, v8]) h8 8 (v8) rfl
  exact h9
theorem put8_upd {w : World} (b : Nat) (v1 v2 v3 v4 v5 v6 v7 v8 : Value) : Upd w ((((((((w.setCell ⟨b, 1, none⟩ (v1)).setCell ⟨b, 2, none⟩ (v2)).setCell ⟨b, 3, none⟩ (v3)).setCell ⟨b, 4, none⟩ (v4)).setCell ⟨b, 5, none⟩ (v5)).setCell ⟨b, 6, none⟩ (v6)).setCell ⟨b, 7, none⟩ (v7)).setCell ⟨b, 8, none⟩ (v8)) (fun k => k = b) := set_upd (set_upd (set_upd (set_upd (set_upd (set_upd (set_upd (set_upd (Upd.refl w (fun k => k = b)) rfl 1 v1) rfl 2 v2) rfl 3 v3) rfl 4 v4) rfl 5 v5) rfl 6 v6) rfl 7 v7) rfl 8 v8
theorem put9_upd {w : World} (b : Nat) (v0 v1 v2 v3 v4 v5 v6 v7 v8 : Value) : Upd w (((((((((w.setCell ⟨b, 0, none⟩ (v0)).setCell ⟨b, 1, none⟩ (v1)).setCell ⟨b, 2, none⟩ (v2)).setCell ⟨b, 3, none⟩ (v3)).setCell ⟨b, 4, none⟩ (v4)).setCell ⟨b, 5, none⟩ (v5)).setCell ⟨b, 6, none⟩ (v6)).setCell ⟨b, 7, none⟩ (v7)).setCell ⟨b, 8, none⟩ (v8)) (fun k => k = b) := set_upd (set_upd (set_upd (set_upd (set_upd (set_upd (set_upd (set_upd (set_upd (Upd.refl w (fun k => k = b)) rfl 0 v0) rfl 1 v1) rfl 2 v2) rfl 3 v3) rfl 4 v4) rfl 5 v5) rfl 6 v6) rfl 7 v7) rfl 8 v8
theorem info71 : (Try.prog.info? 71).map (·.size) = some 9 := by kernel_rfl
theorem ret71t {fn : Func} {p u : Tmp} (h : fn.results = #[.cell p 71, .tmp u]) (tmps : Array Value) (w : World) (g : Nat) (cs : Array Value) (hp : tmps.getD p undef = .pointer (some ⟨g, 0, none⟩)) (hg : w.heap[g]? = some (.cells cs 71 (0, 0))) (hs : cs.size = 9) :
    (results fn tmps).run Try.prog w = .ok (.tuple #[.agg cs, tmps.getD u undef]) w := results_ct h tmps w g 71 cs (0, 0) _ hp hg Try.underlying71 rfl (by rw [hs]; exact info71)
/-- The boxes of a step on a pair, the pair's disk, the document's. -/
structure PW (W w : World) (B : Nat) (ok z0 z : Nat → Prop) (y : Nat → Prop) (g : Nat) (p : PM) (s : RS) (m : RM) (mo : OM) (A : Option Addr) (c : Nat) : Prop where
  bp : w.heap[W.heap.size]? = some (.cells (PV g s m) 71 (0, 0))
  bo : w.heap[W.heap.size + 1]? = some (.cells (OV mo A c) 45 (0, 0))
  bz : w.heap[W.heap.size + 1 + 1]? = some (.cells zero71 71 (0, 0))
  rep : Rep w B (fun k => ok k ∨ W.heap.size + 2 < k ∧ ¬ (z k ∨ y k)) g p
  rr : RRep w z s m
  upd : Upd W w ok
  zo : ∀ k, z k → ¬ ok k ∧ k ≠ W.heap.size ∧ k ≠ W.heap.size + 1 ∧ k ≠ W.heap.size + 1 + 1 ∧ k < w.heap.size
  ol : ∀ k, ok k → k < W.heap.size
  yl : ∀ k, y k → ¬ z k ∧ W.heap.size + 2 < k ∧ k < w.heap.size
  zi : ∀ k, z k → z0 k ∨ W.heap.size ≤ k
section
variable {W w w' : World} {B : Nat} {ok z0 z y : Nat → Prop} {g : Nat} {p p' : PM} {s s' : RS} {m m' : RM} {mo : OM} {A : Option Addr} {c : Nat}
theorem PW.new (hr : Rep W B ok g p) (hm : RRep W z s m) (hz : ∀ k, z k → ¬ ok k ∧ k < W.heap.size) (ho : ∀ k, ok k → k < W.heap.size) : PW W (((W.alloc (.cells (PV g s m) 71)).alloc (.cells (OV mo A c) 45)).alloc (.cells zero71 71)) B ok z z (fun _ => False) g p s m mo A c := by
  have h1 := heap_alloc_new W (.cells (PV g s m) 71)
  have h2 := heap_alloc_new (W.alloc (.cells (PV g s m) 71)) (.cells (OV mo A c) 45)
  have h3 := heap_alloc_new ((W.alloc (.cells (PV g s m) 71)).alloc (.cells (OV mo A c) 45)) (.cells zero71 71)
  rw [show (W.alloc (.cells (PV g s m) 71)).heap.size = W.heap.size + 1 by simp] at h2
  rw [show ((W.alloc (.cells (PV g s m) 71)).alloc (.cells (OV mo A c) 45)).heap.size = W.heap.size + 1 + 1 by simp] at h3
  have hb : Below W.heap.size W (((W.alloc (.cells (PV g s m) 71)).alloc (.cells (OV mo A c) 45)).alloc (.cells zero71 71)) := below_alloc (below_alloc (below_alloc (Below.refl _ _) _) _) _
  refine ⟨blk_below (blk_below h1 (bx _ _)) (bx _ _), blk_below h2 (bx _ _), h3, (hr.later hb).mono (fun k hk => .inl hk), hm.below hb, Upd.of_below hb ok, fun k hk => ?_, ho, fun _ h_ => h_.elim, fun _ h_ => .inl h_⟩
  have := hz k hk
  have := hb.size
  exact ⟨(hz k hk).1, by omega, by omega, by omega, by omega⟩
/-- A call that only makes memory, the document's: new blocks are the document's. -/
theorem PW.next (h : PW W w B ok z0 z y g p s m mo A c) (hb : Below w.heap.size w w') : PW W w' B ok z0 z y g p s m mo A c :=
  ⟨blk_below h.bp hb, blk_below h.bo hb, blk_below h.bz hb, h.rep.later hb, h.rr.below hb, h.upd.then_ (Upd.of_below hb ok) (fun _ _ h => h), fun k hk => ⟨(h.zo k hk).1, (h.zo k hk).2.1, (h.zo k hk).2.2.1, (h.zo k hk).2.2.2.1, Nat.lt_of_lt_of_le (h.zo k hk).2.2.2.2 hb.size⟩, h.ol, fun k hk => ⟨(h.yl k hk).1, (h.yl k hk).2.1, Nat.lt_of_lt_of_le (h.yl k hk).2.2 hb.size⟩, h.zi⟩
/-- The document's answer is put in the pair's box. -/
theorem PW.doc (h : PW W w B ok z0 z y g p s m mo A c) (hr : RRep w' (fun k => z k ∨ w.heap.size ≤ k) s' m') (hb : Below w.heap.size w w') :
    PW W ((((((((w'.setCell ⟨W.heap.size, 1, none⟩ (.slice s'.D0 m'.d0.length s'.D0c)).setCell ⟨W.heap.size, 2, none⟩ (.slice s'.D1 m'.d1.length s'.D1c)).setCell ⟨W.heap.size, 3, none⟩ (.slice s'.P0 m'.p0.length s'.P0c)).setCell ⟨W.heap.size, 4, none⟩ (.slice s'.P1 m'.p1.length s'.P1c)).setCell ⟨W.heap.size, 5, none⟩ (.slice s'.Ar m'.ar.length s'.Arc)).setCell ⟨W.heap.size, 6, none⟩ (.int .i64 m'.cnt)).setCell ⟨W.heap.size, 7, none⟩ (.bool m'.dn)).setCell ⟨W.heap.size, 8, none⟩ (.int .i64 m'.wr)) B ok z0 (fun k => (z k ∨ w.heap.size ≤ k) ∧ k < w'.heap.size) y g p s' m' mo A c := by
  have hU := put8_upd (w := w') W.heap.size (.slice s'.D0 m'.d0.length s'.D0c) (.slice s'.D1 m'.d1.length s'.D1c) (.slice s'.P0 m'.p0.length s'.P0c) (.slice s'.P1 m'.p1.length s'.P1c) (.slice s'.Ar m'.ar.length s'.Arc) (.int .i64 m'.cnt) (.bool m'.dn) (.int .i64 m'.wr)
  have hlt := blk_lt h.bz
  have h2 := h.next hb
  have hsz := hb.size
  have hU2 : Upd W ((((((((w'.setCell ⟨W.heap.size, 1, none⟩ (.slice s'.D0 m'.d0.length s'.D0c)).setCell ⟨W.heap.size, 2, none⟩ (.slice s'.D1 m'.d1.length s'.D1c)).setCell ⟨W.heap.size, 3, none⟩ (.slice s'.P0 m'.p0.length s'.P0c)).setCell ⟨W.heap.size, 4, none⟩ (.slice s'.P1 m'.p1.length s'.P1c)).setCell ⟨W.heap.size, 5, none⟩ (.slice s'.Ar m'.ar.length s'.Arc)).setCell ⟨W.heap.size, 6, none⟩ (.int .i64 m'.cnt)).setCell ⟨W.heap.size, 7, none⟩ (.bool m'.dn)).setCell ⟨W.heap.size, 8, none⟩ (.int .i64 m'.wr)) ok := h2.upd.then_ hU (fun k hk he => by omega)
  refine ⟨pv_put h2.bp, (hU.block _ (blk_lt h2.bo) (by omega)).trans h2.bo, (hU.block _ (blk_lt h2.bz) (by omega)).trans h2.bz, ?_, ?_, hU2, fun k hk => ?_, h.ol, fun k hk => ⟨fun hz => hz.1.elim (h.yl k hk).1 (fun h3 => by have := (h.yl k hk).2.2; omega), (h.yl k hk).2.1, by have := (h.yl k hk).2.2; have := hU.size; omega⟩, fun k hk => hk.1.elim (h.zi k) (fun h3 => .inr (Nat.le_trans h.upd.size h3))⟩
  · have hrep := h.rep.bound
    refine ((hrep.later hb).upd hU (fun k hk _ he => ?_)).mono (fun k hk => ?_)
    · rcases hk.1 with h_ | h_
      · have := h.ol k h_; omega
      · omega
    · rcases hk.1 with h_ | h_
      · exact .inl h_
      · exact .inr ⟨h_.1, fun hz => hz.elim (fun hz => hz.1.elim (fun h3 => h_.2 (.inl h3)) (fun h3 => by have := hk.2.2; omega)) (fun h3 => h_.2 (.inr h3))⟩
  · refine (hr.bound.upd hU (fun k hk _ he => ?_))
    rcases hk.1 with h_ | h_
    · exact (h.zo k h_).2.1 he
    · omega
  · have hs := hU.size
    rcases hk.1 with h_ | h_
    · have := h.zo k h_; exact ⟨this.1, this.2.1, this.2.2.1, this.2.2.2.1, by omega⟩
    · exact ⟨fun h4 => by have := h.ol k h4; omega, by omega, by omega, by omega, by omega⟩
/-- The program's call: its new blocks are its own. -/
theorem PW.prog (h : PW W w B ok z0 z y g p s m mo A c) (hr : Rep w' B (fun k => (ok k ∨ W.heap.size + 2 < k ∧ ¬ (z k ∨ y k)) ∨ w.heap.size ≤ k) g p') (hu : Upd w w' (fun k => ok k ∨ W.heap.size + 2 < k ∧ ¬ (z k ∨ y k))) : PW W w' B ok z0 z y g p' s m mo A c := by
  have hlt := blk_lt h.bz
  have hn : ∀ k, ok k ∨ W.heap.size + 2 < k ∧ ¬ (z k ∨ y k) → k ≠ W.heap.size ∧ k ≠ W.heap.size + 1 ∧ k ≠ W.heap.size + 1 + 1 ∧ ¬ z k := fun k hk => by
    rcases hk with h_ | h_
    · have := h.ol k h_; exact ⟨by omega, by omega, by omega, fun hz => (h.zo k hz).1 h_⟩
    · exact ⟨by omega, by omega, by omega, fun hz => h_.2 (.inl hz)⟩
  refine ⟨(hu.block _ (blk_lt h.bp) (fun h_ => (hn _ h_).1 rfl)).trans h.bp, (hu.block _ (blk_lt h.bo) (fun h_ => (hn _ h_).2.1 rfl)).trans h.bo, (hu.block _ (blk_lt h.bz) (fun h_ => (hn _ h_).2.2.1 rfl)).trans h.bz, hr.mono (fun k hk => ?_), h.rr.upd hu (fun k hk _ h_ => (hn k h_).2.2.2 hk), h.upd.then_ hu (fun k hk h_ => ?_), fun k hk => ?_, h.ol, fun k hk => ⟨(h.yl k hk).1, (h.yl k hk).2.1, Nat.lt_of_lt_of_le (h.yl k hk).2.2 hu.size⟩, h.zi⟩
  · rcases hk with h_ | h_
    · exact h_
    · exact .inr ⟨by omega, fun hz => hz.elim (fun hz => by have := (h.zo k hz).2.2.2.2; omega) (fun hy => by have := (h.yl k hy).2.2; omega)⟩
  · rcases h_ with h_ | h_
    · exact h_
    · omega
  · have := h.zo k hk; have := hu.size; exact ⟨(h.zo k hk).1, (h.zo k hk).2.1, (h.zo k hk).2.2.1, (h.zo k hk).2.2.2.1, by omega⟩
/-- Memory of the step's own: neither disk's. -/
theorem PW.own (h : PW W w B ok z0 z y g p s m mo A c) (hb : Below w.heap.size w w') : PW W w' B ok z0 z (fun k => (y k ∨ w.heap.size ≤ k) ∧ k < w'.heap.size) g p s m mo A c := by
  have h2 := h.next hb
  have hlt := blk_lt h.bz
  have hrep := h.rep.bound.later hb
  refine ⟨h2.bp, h2.bo, h2.bz, hrep.mono (fun k hk => ?_), h2.rr, h2.upd, h2.zo, h.ol, fun k hk => ?_, h.zi⟩
  · rcases hk.1 with h_ | h_
    · exact .inl h_
    · exact .inr ⟨h_.1, fun hz => hz.elim (fun h3 => h_.2 (.inl h3)) (fun h3 => h3.1.elim (fun h4 => h_.2 (.inr h4)) (fun h4 => by have := hk.2.2; omega))⟩
  · rcases hk.1 with h_ | h_
    · exact ⟨(h.yl k h_).1, (h.yl k h_).2.1, hk.2⟩
    · exact ⟨fun hz => by have := (h.zo k hz).2.2.2.2; omega, by omega, hk.2⟩
/-- A store into it. -/
theorem PW.put (h : PW W w B ok z0 z y g p s m mo A c) {b j : Nat} (hy : y b) (u : Value) : PW W (w.setCell ⟨b, j, none⟩ u) B ok z0 z y g p s m mo A c := by
  have hU : Upd w (w.setCell ⟨b, j, none⟩ u) (fun k => k = b) := Upd.setCell (S := fun k => k = b) (Upd.refl w _) (p := ⟨b, j, none⟩) (fun _ => rfl) u
  have hl := h.yl b hy
  have hlt := blk_lt h.bz
  refine ⟨(hU.block _ (blk_lt h.bp) (by omega)).trans h.bp, (hU.block _ (blk_lt h.bo) (by omega)).trans h.bo, (hU.block _ (blk_lt h.bz) (by omega)).trans h.bz, h.rep.upd hU (fun k hk _ he => ?_), h.rr.upd hU (fun k hk _ he => hl.1 (he ▸ hk)), h.upd.then_ hU (fun k hk he => by omega), fun k hk => ?_, h.ol, fun k hk => ⟨(h.yl k hk).1, (h.yl k hk).2.1, Nat.lt_of_lt_of_le (h.yl k hk).2.2 hU.size⟩, h.zi⟩
  · rcases hk with h_ | h_
    · have := h.ol k h_; omega
    · exact h_.2 (.inr (he ▸ hy))
  · have := h.zo k hk; have := hU.size; exact ⟨(h.zo k hk).1, (h.zo k hk).2.1, (h.zo k hk).2.2.1, (h.zo k hk).2.2.2.1, by omega⟩
/-- What a step on a pair leaves. -/
def DPost (W : World) (B : Nat) (ok z : Nat → Prop) (g : Nat) (p' : PM) (m' : RM) (e : Ending) (W' : World) : Prop :=
  ∃ s' z', e = .returned (.tuple #[.agg (PV g s' m'), .bool true]) ∧ Rep W' B (fun k => ok k ∨ W.heap.size ≤ k ∧ ¬ z' k) g p' ∧ RRep W' z' s' m' ∧ (∀ k, z' k → ¬ ok k ∧ k < W'.heap.size) ∧ Upd W W' ok ∧ ∀ k, z' k → z k ∨ W.heap.size ≤ k
theorem PW.done (h : PW W w B ok z0 z y g p s m mo A c) {v0 v1 v2 v3 v4 v5 v6 v7 v8 : Value} :
    (((((((((w.setCell ⟨W.heap.size + 1 + 1, 0, none⟩ (v0)).setCell ⟨W.heap.size + 1 + 1, 1, none⟩ (v1)).setCell ⟨W.heap.size + 1 + 1, 2, none⟩ (v2)).setCell ⟨W.heap.size + 1 + 1, 3, none⟩ (v3)).setCell ⟨W.heap.size + 1 + 1, 4, none⟩ (v4)).setCell ⟨W.heap.size + 1 + 1, 5, none⟩ (v5)).setCell ⟨W.heap.size + 1 + 1, 6, none⟩ (v6)).setCell ⟨W.heap.size + 1 + 1, 7, none⟩ (v7)).setCell ⟨W.heap.size + 1 + 1, 8, none⟩ (v8)).heap[W.heap.size + 1 + 1]? = some (.cells #[v0, v1, v2, v3, v4, v5, v6, v7, v8] 71 (0, 0)) ∧
    Rep (((((((((w.setCell ⟨W.heap.size + 1 + 1, 0, none⟩ (v0)).setCell ⟨W.heap.size + 1 + 1, 1, none⟩ (v1)).setCell ⟨W.heap.size + 1 + 1, 2, none⟩ (v2)).setCell ⟨W.heap.size + 1 + 1, 3, none⟩ (v3)).setCell ⟨W.heap.size + 1 + 1, 4, none⟩ (v4)).setCell ⟨W.heap.size + 1 + 1, 5, none⟩ (v5)).setCell ⟨W.heap.size + 1 + 1, 6, none⟩ (v6)).setCell ⟨W.heap.size + 1 + 1, 7, none⟩ (v7)).setCell ⟨W.heap.size + 1 + 1, 8, none⟩ (v8)) B (fun k => ok k ∨ W.heap.size ≤ k ∧ ¬ z k) g p ∧ RRep (((((((((w.setCell ⟨W.heap.size + 1 + 1, 0, none⟩ (v0)).setCell ⟨W.heap.size + 1 + 1, 1, none⟩ (v1)).setCell ⟨W.heap.size + 1 + 1, 2, none⟩ (v2)).setCell ⟨W.heap.size + 1 + 1, 3, none⟩ (v3)).setCell ⟨W.heap.size + 1 + 1, 4, none⟩ (v4)).setCell ⟨W.heap.size + 1 + 1, 5, none⟩ (v5)).setCell ⟨W.heap.size + 1 + 1, 6, none⟩ (v6)).setCell ⟨W.heap.size + 1 + 1, 7, none⟩ (v7)).setCell ⟨W.heap.size + 1 + 1, 8, none⟩ (v8)) z s m ∧ (∀ k, z k → ¬ ok k ∧ k < (((((((((w.setCell ⟨W.heap.size + 1 + 1, 0, none⟩ (v0)).setCell ⟨W.heap.size + 1 + 1, 1, none⟩ (v1)).setCell ⟨W.heap.size + 1 + 1, 2, none⟩ (v2)).setCell ⟨W.heap.size + 1 + 1, 3, none⟩ (v3)).setCell ⟨W.heap.size + 1 + 1, 4, none⟩ (v4)).setCell ⟨W.heap.size + 1 + 1, 5, none⟩ (v5)).setCell ⟨W.heap.size + 1 + 1, 6, none⟩ (v6)).setCell ⟨W.heap.size + 1 + 1, 7, none⟩ (v7)).setCell ⟨W.heap.size + 1 + 1, 8, none⟩ (v8)).heap.size) ∧ Upd W (((((((((w.setCell ⟨W.heap.size + 1 + 1, 0, none⟩ (v0)).setCell ⟨W.heap.size + 1 + 1, 1, none⟩ (v1)).setCell ⟨W.heap.size + 1 + 1, 2, none⟩ (v2)).setCell ⟨W.heap.size + 1 + 1, 3, none⟩ (v3)).setCell ⟨W.heap.size + 1 + 1, 4, none⟩ (v4)).setCell ⟨W.heap.size + 1 + 1, 5, none⟩ (v5)).setCell ⟨W.heap.size + 1 + 1, 6, none⟩ (v6)).setCell ⟨W.heap.size + 1 + 1, 7, none⟩ (v7)).setCell ⟨W.heap.size + 1 + 1, 8, none⟩ (v8)) ok ∧ (∀ k, z k → z0 k ∨ W.heap.size ≤ k) := by
  have hU := put9_upd (w := w) (W.heap.size + 1 + 1) v0 v1 v2 v3 v4 v5 v6 v7 v8
  refine ⟨z71_put h.bz, ?_, ?_, fun k hk => ⟨(h.zo k hk).1, Nat.lt_of_lt_of_le (h.zo k hk).2.2.2.2 hU.size⟩, h.upd.then_ hU (fun k hk he => by omega), h.zi⟩
  · refine (h.rep.upd hU (fun k hk _ he => ?_)).mono (fun k hk => ?_)
    · rcases hk with h_ | h_
      · have := h.ol k h_; omega
      · omega
    · rcases hk with h_ | h_
      · exact .inl h_
      · exact .inr ⟨by omega, fun hz => h_.2 (.inl hz)⟩
  · exact h.rr.upd hU (fun k hk _ he => (h.zo k hk).2.2.2.1 he)
/-! ### The program's calls on the pair -/
theorem PW.bw (h : PW W w B ok z0 z y g p s m mo A c) (hB : B ≤ W.heap.size) : B ≤ w.heap.size := Nat.le_trans hB h.upd.size
theorem PW.arm_ (h : PW W w B ok z0 z y g p s m mo A c) (hp : p.ok) (hB : B ≤ W.heap.size) {a k e : Int} (he : (p.arm a k).2 = e) : Calls Try.prog 13 #[.pointer (some ⟨g, 0, none⟩), .int .i64 a, .int .i64 k] w fun e' w' => e' = .returned (.int .i64 e) ∧ PW W w' B ok z0 z y g (p.arm a k).1 s m mo A c := by
  subst he; exact (arm_calls h.rep hp (h.bw hB) a k).mono fun e' w' ⟨h1, h2, h3⟩ => ⟨h1, h.prog h2 h3⟩
theorem PW.append_ (h : PW W w B ok z0 z y g p s m mo A c) (hp : p.ok) (hB : B ≤ W.heap.size) {n e : Int} {Ad : Option Addr} {cd : Nat} {data : List Int} (hC : Kd.C By w Ad data.length data) (hl : data.length ≤ 140737488355328) (he : (p.append n data).2 = e) :
    Calls Try.prog 14 #[.pointer (some ⟨g, 0, none⟩), .int .i64 n, .slice Ad data.length cd] w fun e' w' => e' = .returned (.int .i64 e) ∧ PW W w' B ok z0 z y g (p.append n data).1 s m mo A c ∧ Upd w w' (fun k => ok k ∨ W.heap.size + 2 < k ∧ ¬ (z k ∨ y k)) := by
  subst he; exact (append_calls h.rep hp (h.bw hB) n Ad cd data hC hl).mono fun e' w' ⟨h1, h2, h3⟩ => ⟨h1, h.prog h2 h3, h3⟩
theorem PW.sync_ (h : PW W w B ok z0 z y g p s m mo A c) (hp : p.ok) (hB : B ≤ W.heap.size) {n e : Int} (he : (p.syncf n).2 = e) : Calls Try.prog 28 #[.pointer (some ⟨g, 0, none⟩), .int .i64 n] w fun e' w' => e' = .returned (.int .i64 e) ∧ PW W w' B ok z0 z y g (p.syncf n).1 s m mo A c := by
  subst he; exact (sync_calls h.rep hp (h.bw hB) n).mono fun e' w' ⟨h1, h2, h3⟩ => ⟨h1, h.prog h2 h3⟩
theorem PW.trunc_ (h : PW W w B ok z0 z y g p s m mo A c) (hp : p.ok) (hB : B ≤ W.heap.size) {n sz e : Int} (he : (p.trunc n sz).2 = e) : Calls Try.prog 44 #[.pointer (some ⟨g, 0, none⟩), .int .i64 n, .int .i64 sz] w fun e' w' => e' = .returned (.int .i64 e) ∧ PW W w' B ok z0 z y g (p.trunc n sz).1 s m mo A c := by
  subst he; exact (trunc_calls h.rep hp (h.bw hB) n sz).mono fun e' w' ⟨h1, h2, h3⟩ => ⟨h1, h.prog h2 h3⟩
theorem PW.restart_ (h : PW W w B ok z0 z y g p s m mo A c) {e : Int} (he : p.restart.2 = e) : Calls Try.prog 29 #[.pointer (some ⟨g, 0, none⟩)] w fun e' w' => e' = .returned (.int .i64 e) ∧ PW W w' B ok z0 z y g p.restart.1 s m mo A c := by
  subst he; exact (restart_calls h.rep).mono fun e' w' ⟨h1, h2, h3⟩ => ⟨h1, h.prog (h2.mono (fun _ hk => .inl hk)) h3⟩
theorem PW.disarm_ (h : PW W w B ok z0 z y g p s m mo A c) : Calls Try.prog 27 #[.pointer (some ⟨g, 0, none⟩)] w fun e' w' => (∃ v, e' = .returned v) ∧ PW W w' B ok z0 z y g p.disarm s m mo A c :=
  (disarm_calls h.rep).mono fun e' w' ⟨h1, h2, h3⟩ => ⟨h1, h.prog (h2.mono (fun _ hk => .inl hk)) h3⟩
theorem PW.down_ (h : PW W w B ok z0 z y g p s m mo A c) {e : Bool} (he : p.dn = e) : Calls Try.prog 18 #[.pointer (some ⟨g, 0, none⟩)] w fun e' w' => e' = .returned (.bool e) ∧ PW W w' B ok z0 z y g p s m mo A c := by
  subst he; exact (down_calls h.rep).mono fun e' w' ⟨h1, h2⟩ => ⟨h1, h2 ▸ h⟩
theorem PW.writes_ (h : PW W w B ok z0 z y g p s m mo A c) {e : Int} (he : p.wr = e) : Calls Try.prog 19 #[.pointer (some ⟨g, 0, none⟩)] w fun e' w' => e' = .returned (.int .i64 e) ∧ PW W w' B ok z0 z y g p s m mo A c := by
  subst he; exact (writes_calls h.rep).mono fun e' w' ⟨h1, h2⟩ => ⟨h1, h2 ▸ h⟩
end
theorem rrestart_post {w : World} {z : Nat → Prop} {s : RS} {m : RM} (h : RRep w z s m) : Calls Try.prog 55 #[.agg (RC s m)] w (RPost w z m.restart) := by
  refine (rrestart_calls s m w).mono fun e w' ⟨he, hb⟩ => ⟨s, he, ?_, hb⟩
  have h2 := (h.below hb).mono (ok' := fun k => z k ∨ w.heap.size ≤ k) (fun _ hk => .inl hk)
  unfold RM.restart
  split
  · exact ⟨h2.d0, h2.d0c, h2.d1, h2.d1c, h2.p0, h2.p0c, h2.p1, h2.p1c, h2.ar, h2.arc⟩
  · exact h2
theorem rdisarm_post {w : World} {z : Nat → Prop} {s : RS} {m : RM} (h : RRep w z s m) : Calls Try.prog 54 #[.agg (RC s m)] w fun e w' => ∃ s', e = .returned (.agg (RC s' m.disarm)) ∧ RRep w' (fun k => z k ∨ w.heap.size ≤ k) s' m.disarm ∧ Below w.heap.size w w' := by
  refine (rdisarm_calls s m w).mono fun e w' ⟨he, hb⟩ => ⟨s.disarm, he, ?_, hb⟩
  have h2 := (h.below hb).mono (ok' := fun k => z k ∨ w.heap.size ≤ k) (fun _ hk => .inl hk)
  exact ⟨h2.d0, h2.d0c, h2.d1, h2.d1c, h2.p0, h2.p0c, h2.p1, h2.p1c, f_nil _ _, Nat.le_refl _⟩
end Go.Proofs.Yticokogggepfoaa.D
namespace Go.Proofs.Yticokogggepfoaa.D
open Go.RowKit Go.Proofs.YticokogggepfoaaW.PrintWords Go.Proofs.YticokogggepfoaaW.PrintLast Go.Proofs.YticokogggepfoaaW.PrintMore Go.Proofs.Yticokogggepfoaa.G
attribute [local go_sem] max2_int min2_int max_two min_two max_three min_three max_four min_four
set_option linter.unusedVariables false
set_option linter.unusedSimpArgs false
set_option maxRecDepth 100000
attribute [local go_sem ↓] Go.wp_at_zero Go.wp_at_succ
variable {W : World} {B : Nat} {ok z z0 : Nat → Prop} {g : Nat} {p : PM} {s : RS} {m m' : RM} {er : Int} {A : Option Addr} {c : Nat} {ot : Bool} {kd fl ma mb : Int} {data : List Int}
set_option maxHeartbeats 4000000 in
theorem order_arm (hr : Rep W B ok g p) (hB : B ≤ W.heap.size) (hm : RRep W z0 s m) (hz : ∀ k, z0 k → ¬ ok k ∧ k < W.heap.size) (ho : ∀ k, ok k → k < W.heap.size) (hR : Rel p m) (hM : m.ok) (hq : m.arm ma mb = (m', er)) :
    Calls Try.prog 41 #[.agg (PV g s m), .agg (OV ⟨7, ot, fl, ma, mb, data⟩ A c)] W (DPost W B ok z0 g ((p.arm ma mb).1) (m')) := by
  have HN := Aside0.mk (PW.new (mo := ⟨7, ot, fl, ma, mb, data⟩) (A := A) (c := c) hr hm hz ho)
  have HPK := Aside0.mk (hR.ok hM)
  have HBW := Aside0.mk hB
  have HM := Aside0.mk hM
  have HR := Aside0.mk hR
  have HE := Aside0.mk (show (p.arm ma mb).2 = er by rw [(hR.arm hM ma mb).2.1, hq])
  have HQ := Aside0.mk hq
  clear hr hB hm hz ho hR hM hq
  go_enter Try.func41, Try.ntmps41
  go_upto_region 2 with fail
  refine gen_world (fun w2 => ∃ z, PW W w2 B ok z0 z (fun _ => False) g p s m ⟨7, ot, fl, ma, mb, data⟩ A c) ⟨_, HN.out⟩ ?_
  rintro w2 ⟨z, h2⟩
  have HT := Aside0.mk h2
  clear h2 HN
  obtain ⟨x0, x1, x2, x3, x4, x5, x6, x7, x8⟩ := pv_cells HT.out.bp
  obtain ⟨y0, y1, y2, y3, y4, y5⟩ := ov_cells HT.out.bo
  dsimp only at y0 y1 y2 y3 y4 y5
  have hf0 := blk_frozen HT.out.bp
  have hf1 := blk_frozen HT.out.bo
  go_wp2_with fail
  refine (show Calls Try.prog 53 _ _ (RPost _ z (m', er)) from HQ.out ▸ rarm_calls HT.out.rr HM.out ma mb).mono ?_
  rintro e w3 ⟨s2, rfl, hr3, hb⟩
  have h3 := HT.out.next hb
  clear x0 x1 x2 x3 x4 x5 x6 x7 x8 y0 y1 y2 y3 y4 y5 hf0 hf1
  obtain ⟨x0, x1, x2, x3, x4, x5, x6, x7, x8⟩ := pv_cells h3.bp
  obtain ⟨y0, y1, y2, y3, y4, y5⟩ := ov_cells h3.bo
  dsimp only at y0 y1 y2 y3 y4 y5
  have hf0 := blk_frozen h3.bp
  have hf1 := blk_frozen h3.bo
  have HD := Aside0.mk (HT.out.doc hr3 hb)
  clear h3 hr3 hb
  go_upto_region 5 with fail
  refine gen_world (fun w4 => ∃ z s, PW W w4 B ok z0 z (fun _ => False) g p s m' ⟨7, ot, fl, ma, mb, data⟩ A c) ⟨_, _, HD.out⟩ ?_
  clear x0 x1 x2 x3 x4 x5 x6 x7 x8 y0 y1 y2 y3 y4 y5 hf0 hf1
  clear HT HD
  rintro w4 ⟨z, s, h4⟩
  have HT := Aside0.mk (h4.next (below_drew1 (Below.refl _ _)))
  clear h4
  refine start_ (n := 12) (S := fun w' => (w'.cell? ⟨W.heap.size, 0, none⟩ = some (.pointer (some ⟨g, 0, none⟩)) ∧ w'.cell? ⟨W.heap.size, 1, none⟩ = some (.slice s.D0 m'.d0.length s.D0c) ∧ w'.cell? ⟨W.heap.size, 2, none⟩ = some (.slice s.D1 m'.d1.length s.D1c) ∧ w'.cell? ⟨W.heap.size, 3, none⟩ = some (.slice s.P0 m'.p0.length s.P0c) ∧ w'.cell? ⟨W.heap.size, 4, none⟩ = some (.slice s.P1 m'.p1.length s.P1c) ∧ w'.cell? ⟨W.heap.size, 5, none⟩ = some (.slice s.Ar m'.ar.length s.Arc) ∧ w'.cell? ⟨W.heap.size, 6, none⟩ = some (.int .i64 m'.cnt) ∧ w'.cell? ⟨W.heap.size, 7, none⟩ = some (.bool m'.dn) ∧ w'.cell? ⟨W.heap.size, 8, none⟩ = some (.int .i64 m'.wr)) ∧ (w'.cell? ⟨W.heap.size + 1, 0, none⟩ = some (.int .i64 7) ∧ w'.cell? ⟨W.heap.size + 1, 1, none⟩ = some (.bool ot) ∧ w'.cell? ⟨W.heap.size + 1, 2, none⟩ = some (.int .i64 fl) ∧ w'.cell? ⟨W.heap.size + 1, 3, none⟩ = some (.int .i64 ma) ∧ w'.cell? ⟨W.heap.size + 1, 4, none⟩ = some (.int .i64 mb) ∧ w'.cell? ⟨W.heap.size + 1, 5, none⟩ = some (.slice A data.length c))) (ds := [10]) #[false, false, false, false, false, false, false, false, false, false, false, false] (by kernel_rfl) rfl rfl ⟨pv_cells HT.out.bp, ov_cells HT.out.bo⟩ (fun hHeld => ?_)
  refine pure_ (i := 1) (N := (some 23)) (v := ?_) (a' := ?_) #[false, true, false, false, false, false, false, false, false, false, false, false] rfl rfl (by kernel_rfl) (fun _ _ _ h => h) (Or.inl ⟨by rfl, ?_⟩) ?_ ?_
  rotate_left
  · intro w'
    go_simp
    with_reducible rfl
  rotate_left
  · simp only [Act.put, List.setIfInBounds_toArray, List.set_cons_zero, List.set_cons_succ, i64_w, i32_w]
    rfl
  refine pure_ (i := 3) (N := (some 25)) (v := ?_) (a' := ?_) #[false, true, false, true, false, false, false, false, false, false, false, false] rfl rfl (by kernel_rfl) (fun _ _ _ h => h) (Or.inl ⟨by rfl, ?_⟩) ?_ ?_
  rotate_left
  · intro w'
    go_simp
    with_reducible rfl
  rotate_left
  · simp only [Act.put, List.setIfInBounds_toArray, List.set_cons_zero, List.set_cons_succ, i64_w, i32_w]
    rfl
  refine pure_ (i := 5) (N := (some 27)) (v := ?_) (a' := ?_) #[false, true, false, true, false, true, false, false, false, false, false, false] rfl rfl (by kernel_rfl) (fun _ _ _ h => h) (Or.inl ⟨by rfl, ?_⟩) ?_ ?_
  rotate_left
  · intro w'
    go_simp
    with_reducible rfl
  rotate_left
  · simp only [Act.put, List.setIfInBounds_toArray, List.set_cons_zero, List.set_cons_succ, i64_w, i32_w]
    rfl
  refine pure_ (i := 8) (N := (some 30)) (v := ?_) (a' := ?_) #[false, true, false, true, false, true, false, false, true, false, false, false] rfl rfl (by kernel_rfl) (fun _ _ _ h => h) (Or.inl ⟨by rfl, ?_⟩) ?_ ?_
  rotate_left
  · intro w'
    go_simp
    with_reducible rfl
  rotate_left
  · simp only [Act.put, List.setIfInBounds_toArray, List.set_cons_zero, List.set_cons_succ, i64_w, i32_w]
    rfl
  refine take_ (i := 0) (N := (some 22)) (v := ?_) (a' := ?_) #[true, true, false, true, false, true, false, false, true, false, false, false] rfl rfl (by kernel_rfl) (fun _ _ _ h => h) (Or.inl ⟨by rfl, ?_⟩) hHeld ?_ ?_
  rotate_left
  · rintro w' ⟨⟨s0, s1, s2, s3, s4, s5, s6, s7, s8⟩, s9, s10, s11, s12, s13, s14⟩
    go_simp
    with_reducible rfl
  rotate_left
  · simp only [Act.put, List.setIfInBounds_toArray, List.set_cons_zero, List.set_cons_succ, i64_w, i32_w]
    rfl
  refine take_ (i := 2) (N := (some 24)) (v := ?_) (a' := ?_) #[true, true, true, true, false, true, false, false, true, false, false, false] rfl rfl (by kernel_rfl) (fun _ _ _ h => h) (Or.inl ⟨by rfl, ?_⟩) hHeld ?_ ?_
  rotate_left
  · rintro w' ⟨⟨s0, s1, s2, s3, s4, s5, s6, s7, s8⟩, s9, s10, s11, s12, s13, s14⟩
    go_simp
    with_reducible rfl
  rotate_left
  · simp only [Act.put, List.setIfInBounds_toArray, List.set_cons_zero, List.set_cons_succ, i64_w, i32_w]
    rfl
  refine take_ (i := 4) (N := (some 26)) (v := ?_) (a' := ?_) #[true, true, true, true, true, true, false, false, true, false, false, false] rfl rfl (by kernel_rfl) (fun _ _ _ h => h) (Or.inl ⟨by rfl, ?_⟩) hHeld ?_ ?_
  rotate_left
  · rintro w' ⟨⟨s0, s1, s2, s3, s4, s5, s6, s7, s8⟩, s9, s10, s11, s12, s13, s14⟩
    go_simp
    with_reducible rfl
  rotate_left
  · simp only [Act.put, List.setIfInBounds_toArray, List.set_cons_zero, List.set_cons_succ, i64_w, i32_w]
    rfl
  refine take_ (i := 6) (N := (some 28)) (v := ?_) (a' := ?_) #[true, true, true, true, true, true, true, false, true, false, false, false] rfl rfl (by kernel_rfl) (fun _ _ _ h => h) (Or.inl ⟨by rfl, ?_⟩) hHeld ?_ ?_
  rotate_left
  · rintro w' ⟨⟨s0, s1, s2, s3, s4, s5, s6, s7, s8⟩, s9, s10, s11, s12, s13, s14⟩
    go_simp
    with_reducible rfl
  rotate_left
  · simp only [Act.put, List.setIfInBounds_toArray, List.set_cons_zero, List.set_cons_succ, i64_w, i32_w]
    rfl
  refine one_ (i := 7) (N := (some 29)) #[true, true, true, true, true, true, true, true, true, false, false, false] rfl rfl (by kernel_rfl) (by decide) (fun K hK => ?_)
  refine goes_ Try.func13 (by kernel_rfl) rfl #[.pointer (some ⟨g, 0, none⟩), .int .i64 ma, .int .i64 mb] (by rfl) rfl rfl (by (try simp only [List.map_toArray, List.map_cons, List.map_nil]); first | done | rfl | (simp only [List.length_drop, List.length_take]; rfl)) ?_
  with_reducible refine (HT.out.arm_ HPK.out HBW.out HE.out).mono ?_
  rintro e w6 ⟨rfl, h6⟩
  refine ⟨_, rfl, ?_⟩
  have HT := Aside0.mk h6
  clear h6
  refine hK.out _ _ ⟨pv_cells HT.out.bp, ov_cells HT.out.bo⟩ (fun hHeld => ?_)
  clear hK K
  refine norm_ (a' := ?_) ?_ ?_
  rotate_left
  · show Act.put _ (some 29) _ = _
    simp only [Act.put, List.setIfInBounds_toArray, List.set_cons_zero, List.set_cons_succ, i64_w, i32_w]
    rfl
  refine pure_ (i := 9) (N := (some 31)) (v := ?_) (a' := ?_) #[true, true, true, true, true, true, true, true, true, true, false, false] rfl rfl (by kernel_rfl) (fun _ _ _ h => h) (Or.inl ⟨by rfl, ?_⟩) ?_ ?_
  rotate_left
  · intro w'
    go_simp
    with_reducible rfl
  rotate_left
  · simp only [Act.put, List.setIfInBounds_toArray, List.set_cons_zero, List.set_cons_succ, i64_w, i32_w]
    rfl
  refine last_ (i := 10) (N := none) #[true, true, true, true, true, true, true, true, true, true, true, false] rfl rfl (by kernel_rfl) (by decide) (fun K hK => ?_)
  obtain ⟨z0, z1, z2, z3, z4, z5, z6, z7, z8⟩ := z71_cells HT.out.bz
  have hfo := blk_frozen HT.out.bz
  refine skip_ (w1 := ?_) (by rfl) rfl ?_ ?_
  rotate_left
  · go_simp
    rfl
  refine hK.out _ _ ?_
  clear hK K z0 z1 z2 z3 z4 z5 z6 z7 z8 hfo
  refine pure_ (i := 11) (N := (some 5)) (v := ?_) (a' := ?_) #[true, true, true, true, true, true, true, true, true, true, true, true] rfl rfl (by kernel_rfl) (fun _ _ _ h => h) (Or.inl ⟨by rfl, ?_⟩) ?_ ?_
  rotate_left
  · intro w'
    go_simp
    with_reducible rfl
  rotate_left
  · simp only [Act.put, List.setIfInBounds_toArray, List.set_cons_zero, List.set_cons_succ, i64_w, i32_w]
    rfl
  refine done_ (by kernel_rfl) ?_
  go_wp2
  exact bodyPost_ret (ret71t Try.results41 _ _ (W.heap.size + 1 + 1) (PV g s m') rfl HT.out.done.1 rfl) rfl ⟨s, z, rfl, HT.out.done.2⟩
set_option maxHeartbeats 4000000 in
theorem order_restart (hr : Rep W B ok g p) (hB : B ≤ W.heap.size) (hm : RRep W z0 s m) (hz : ∀ k, z0 k → ¬ ok k ∧ k < W.heap.size) (ho : ∀ k, ok k → k < W.heap.size) (hR : Rel p m) (hM : m.ok) (hq : m.restart = (m', er)) :
    Calls Try.prog 41 #[.agg (PV g s m), .agg (OV ⟨9, ot, fl, ma, mb, data⟩ A c)] W (DPost W B ok z0 g (p.restart.1) (m')) := by
  have HN := Aside0.mk (PW.new (mo := ⟨9, ot, fl, ma, mb, data⟩) (A := A) (c := c) hr hm hz ho)
  have HPK := Aside0.mk (hR.ok hM)
  have HBW := Aside0.mk hB
  have HM := Aside0.mk hM
  have HR := Aside0.mk hR
  have HE := Aside0.mk (show p.restart.2 = er by rw [(hR.restart hM).2.1, hq])
  have HQ := Aside0.mk hq
  clear hr hB hm hz ho hR hM hq
  go_enter Try.func41, Try.ntmps41
  go_upto_region 2 with fail
  refine gen_world (fun w2 => ∃ z, PW W w2 B ok z0 z (fun _ => False) g p s m ⟨9, ot, fl, ma, mb, data⟩ A c) ⟨_, HN.out⟩ ?_
  rintro w2 ⟨z, h2⟩
  have HT := Aside0.mk h2
  clear h2 HN
  obtain ⟨x0, x1, x2, x3, x4, x5, x6, x7, x8⟩ := pv_cells HT.out.bp
  obtain ⟨y0, y1, y2, y3, y4, y5⟩ := ov_cells HT.out.bo
  dsimp only at y0 y1 y2 y3 y4 y5
  have hf0 := blk_frozen HT.out.bp
  have hf1 := blk_frozen HT.out.bo
  have HRS := Aside0.mk (fun (w : World) (h : RRep w z s m) => rrestart_post h)
  go_wp2_with fail
  refine (show Calls Try.prog 55 _ _ (RPost _ z (m', er)) from HQ.out ▸ HRS.out _ HT.out.rr).mono ?_
  rintro e w3 ⟨s2, rfl, hr3, hb⟩
  have h3 := HT.out.next hb
  clear x0 x1 x2 x3 x4 x5 x6 x7 x8 y0 y1 y2 y3 y4 y5 hf0 hf1
  obtain ⟨x0, x1, x2, x3, x4, x5, x6, x7, x8⟩ := pv_cells h3.bp
  obtain ⟨y0, y1, y2, y3, y4, y5⟩ := ov_cells h3.bo
  dsimp only at y0 y1 y2 y3 y4 y5
  have hf0 := blk_frozen h3.bp
  have hf1 := blk_frozen h3.bo
  have HD := Aside0.mk (HT.out.doc hr3 hb)
  clear h3 hr3 hb
  go_upto_region 11 with fail
  refine gen_world (fun w4 => ∃ z s, PW W w4 B ok z0 z (fun _ => False) g p s m' ⟨9, ot, fl, ma, mb, data⟩ A c) ⟨_, _, HD.out⟩ ?_
  clear x0 x1 x2 x3 x4 x5 x6 x7 x8 y0 y1 y2 y3 y4 y5 hf0 hf1
  clear HT HD
  rintro w4 ⟨z, s, h4⟩
  have HT := Aside0.mk (h4.next (below_drew1 (Below.refl _ _)))
  clear h4
  refine start_ (n := 8) (S := fun w' => (w'.cell? ⟨W.heap.size, 0, none⟩ = some (.pointer (some ⟨g, 0, none⟩)) ∧ w'.cell? ⟨W.heap.size, 1, none⟩ = some (.slice s.D0 m'.d0.length s.D0c) ∧ w'.cell? ⟨W.heap.size, 2, none⟩ = some (.slice s.D1 m'.d1.length s.D1c) ∧ w'.cell? ⟨W.heap.size, 3, none⟩ = some (.slice s.P0 m'.p0.length s.P0c) ∧ w'.cell? ⟨W.heap.size, 4, none⟩ = some (.slice s.P1 m'.p1.length s.P1c) ∧ w'.cell? ⟨W.heap.size, 5, none⟩ = some (.slice s.Ar m'.ar.length s.Arc) ∧ w'.cell? ⟨W.heap.size, 6, none⟩ = some (.int .i64 m'.cnt) ∧ w'.cell? ⟨W.heap.size, 7, none⟩ = some (.bool m'.dn) ∧ w'.cell? ⟨W.heap.size, 8, none⟩ = some (.int .i64 m'.wr)) ∧ (w'.cell? ⟨W.heap.size + 1, 0, none⟩ = some (.int .i64 9) ∧ w'.cell? ⟨W.heap.size + 1, 1, none⟩ = some (.bool ot) ∧ w'.cell? ⟨W.heap.size + 1, 2, none⟩ = some (.int .i64 fl) ∧ w'.cell? ⟨W.heap.size + 1, 3, none⟩ = some (.int .i64 ma) ∧ w'.cell? ⟨W.heap.size + 1, 4, none⟩ = some (.int .i64 mb) ∧ w'.cell? ⟨W.heap.size + 1, 5, none⟩ = some (.slice A data.length c))) (ds := [6]) #[false, false, false, false, false, false, false, false] (by kernel_rfl) rfl rfl ⟨pv_cells HT.out.bp, ov_cells HT.out.bo⟩ (fun hHeld => ?_)
  refine pure_ (i := 1) (N := (some 51)) (v := ?_) (a' := ?_) #[false, true, false, false, false, false, false, false] rfl rfl (by kernel_rfl) (fun _ _ _ h => h) (Or.inl ⟨by rfl, ?_⟩) ?_ ?_
  rotate_left
  · intro w'
    go_simp
    with_reducible rfl
  rotate_left
  · simp only [Act.put, List.setIfInBounds_toArray, List.set_cons_zero, List.set_cons_succ, i64_w, i32_w]
    rfl
  refine pure_ (i := 4) (N := (some 54)) (v := ?_) (a' := ?_) #[false, true, false, false, true, false, false, false] rfl rfl (by kernel_rfl) (fun _ _ _ h => h) (Or.inl ⟨by rfl, ?_⟩) ?_ ?_
  rotate_left
  · intro w'
    go_simp
    with_reducible rfl
  rotate_left
  · simp only [Act.put, List.setIfInBounds_toArray, List.set_cons_zero, List.set_cons_succ, i64_w, i32_w]
    rfl
  refine take_ (i := 0) (N := (some 50)) (v := ?_) (a' := ?_) #[true, true, false, false, true, false, false, false] rfl rfl (by kernel_rfl) (fun _ _ _ h => h) (Or.inl ⟨by rfl, ?_⟩) hHeld ?_ ?_
  rotate_left
  · rintro w' ⟨⟨s0, s1, s2, s3, s4, s5, s6, s7, s8⟩, s9, s10, s11, s12, s13, s14⟩
    go_simp
    with_reducible rfl
  rotate_left
  · simp only [Act.put, List.setIfInBounds_toArray, List.set_cons_zero, List.set_cons_succ, i64_w, i32_w]
    rfl
  refine take_ (i := 2) (N := (some 52)) (v := ?_) (a' := ?_) #[true, true, true, false, true, false, false, false] rfl rfl (by kernel_rfl) (fun _ _ _ h => h) (Or.inl ⟨by rfl, ?_⟩) hHeld ?_ ?_
  rotate_left
  · rintro w' ⟨⟨s0, s1, s2, s3, s4, s5, s6, s7, s8⟩, s9, s10, s11, s12, s13, s14⟩
    go_simp
    with_reducible rfl
  rotate_left
  · simp only [Act.put, List.setIfInBounds_toArray, List.set_cons_zero, List.set_cons_succ, i64_w, i32_w]
    rfl
  refine one_ (i := 3) (N := (some 53)) #[true, true, true, true, true, false, false, false] rfl rfl (by kernel_rfl) (by decide) (fun K hK => ?_)
  refine goes_ Try.func29 (by kernel_rfl) rfl #[.pointer (some ⟨g, 0, none⟩)] (by rfl) rfl rfl (by (try simp only [List.map_toArray, List.map_cons, List.map_nil]); first | done | rfl | (simp only [List.length_drop, List.length_take]; rfl)) ?_
  with_reducible refine (HT.out.restart_ HE.out).mono ?_
  rintro e w6 ⟨rfl, h6⟩
  refine ⟨_, rfl, ?_⟩
  have HT := Aside0.mk h6
  clear h6
  refine hK.out _ _ ⟨pv_cells HT.out.bp, ov_cells HT.out.bo⟩ (fun hHeld => ?_)
  clear hK K
  refine norm_ (a' := ?_) ?_ ?_
  rotate_left
  · show Act.put _ (some 53) _ = _
    simp only [Act.put, List.setIfInBounds_toArray, List.set_cons_zero, List.set_cons_succ, i64_w, i32_w]
    rfl
  refine pure_ (i := 5) (N := (some 55)) (v := ?_) (a' := ?_) #[true, true, true, true, true, true, false, false] rfl rfl (by kernel_rfl) (fun _ _ _ h => h) (Or.inl ⟨by rfl, ?_⟩) ?_ ?_
  rotate_left
  · intro w'
    go_simp
    with_reducible rfl
  rotate_left
  · simp only [Act.put, List.setIfInBounds_toArray, List.set_cons_zero, List.set_cons_succ, i64_w, i32_w]
    rfl
  refine last_ (i := 6) (N := none) #[true, true, true, true, true, true, true, false] rfl rfl (by kernel_rfl) (by decide) (fun K hK => ?_)
  obtain ⟨z0, z1, z2, z3, z4, z5, z6, z7, z8⟩ := z71_cells HT.out.bz
  have hfo := blk_frozen HT.out.bz
  refine skip_ (w1 := ?_) (by rfl) rfl ?_ ?_
  rotate_left
  · go_simp
    rfl
  refine hK.out _ _ ?_
  clear hK K z0 z1 z2 z3 z4 z5 z6 z7 z8 hfo
  refine pure_ (i := 7) (N := (some 5)) (v := ?_) (a' := ?_) #[true, true, true, true, true, true, true, true] rfl rfl (by kernel_rfl) (fun _ _ _ h => h) (Or.inl ⟨by rfl, ?_⟩) ?_ ?_
  rotate_left
  · intro w'
    go_simp
    with_reducible rfl
  rotate_left
  · simp only [Act.put, List.setIfInBounds_toArray, List.set_cons_zero, List.set_cons_succ, i64_w, i32_w]
    rfl
  refine done_ (by kernel_rfl) ?_
  go_wp2
  exact bodyPost_ret (ret71t Try.results41 _ _ (W.heap.size + 1 + 1) (PV g s m') rfl HT.out.done.1 rfl) rfl ⟨s, z, rfl, HT.out.done.2⟩
set_option maxHeartbeats 4000000 in
theorem order_down (hr : Rep W B ok g p) (hB : B ≤ W.heap.size) (hm : RRep W z0 s m) (hz : ∀ k, z0 k → ¬ ok k ∧ k < W.heap.size) (ho : ∀ k, ok k → k < W.heap.size) (hR : Rel p m) (hM : m.ok) :
    Calls Try.prog 41 #[.agg (PV g s m), .agg (OV ⟨10, ot, fl, ma, mb, data⟩ A c)] W (DPost W B ok z0 g (p) (m)) := by
  have HN := Aside0.mk (PW.new (mo := ⟨10, ot, fl, ma, mb, data⟩) (A := A) (c := c) hr hm hz ho)
  have HPK := Aside0.mk (hR.ok hM)
  have HBW := Aside0.mk hB
  have HM := Aside0.mk hM
  have HR := Aside0.mk hR
  have HE := Aside0.mk (show p.dn = m.dn from hR.dn)
  clear hr hB hm hz ho hR hM
  go_enter Try.func41, Try.ntmps41
  go_upto_region 2 with fail
  refine gen_world (fun w2 => ∃ z, PW W w2 B ok z0 z (fun _ => False) g p s m ⟨10, ot, fl, ma, mb, data⟩ A c) ⟨_, HN.out⟩ ?_
  rintro w2 ⟨z, h2⟩
  have HT := Aside0.mk h2
  clear h2 HN
  obtain ⟨x0, x1, x2, x3, x4, x5, x6, x7, x8⟩ := pv_cells HT.out.bp
  obtain ⟨y0, y1, y2, y3, y4, y5⟩ := ov_cells HT.out.bo
  dsimp only at y0 y1 y2 y3 y4 y5
  have hf0 := blk_frozen HT.out.bp
  have hf1 := blk_frozen HT.out.bo
  go_upto_region 13 with fail
  clear x0 x1 x2 x3 x4 x5 x6 x7 x8 y0 y1 y2 y3 y4 y5 hf0 hf1
  have h4 := HT.out
  clear HT
  have HT := Aside0.mk (h4.next (below_drew1 (Below.refl _ _)))
  clear h4
  refine start_ (n := 10) (S := fun w' => (w'.cell? ⟨W.heap.size, 0, none⟩ = some (.pointer (some ⟨g, 0, none⟩)) ∧ w'.cell? ⟨W.heap.size, 1, none⟩ = some (.slice s.D0 m.d0.length s.D0c) ∧ w'.cell? ⟨W.heap.size, 2, none⟩ = some (.slice s.D1 m.d1.length s.D1c) ∧ w'.cell? ⟨W.heap.size, 3, none⟩ = some (.slice s.P0 m.p0.length s.P0c) ∧ w'.cell? ⟨W.heap.size, 4, none⟩ = some (.slice s.P1 m.p1.length s.P1c) ∧ w'.cell? ⟨W.heap.size, 5, none⟩ = some (.slice s.Ar m.ar.length s.Arc) ∧ w'.cell? ⟨W.heap.size, 6, none⟩ = some (.int .i64 m.cnt) ∧ w'.cell? ⟨W.heap.size, 7, none⟩ = some (.bool m.dn) ∧ w'.cell? ⟨W.heap.size, 8, none⟩ = some (.int .i64 m.wr)) ∧ (w'.cell? ⟨W.heap.size + 1, 0, none⟩ = some (.int .i64 10) ∧ w'.cell? ⟨W.heap.size + 1, 1, none⟩ = some (.bool ot) ∧ w'.cell? ⟨W.heap.size + 1, 2, none⟩ = some (.int .i64 fl) ∧ w'.cell? ⟨W.heap.size + 1, 3, none⟩ = some (.int .i64 ma) ∧ w'.cell? ⟨W.heap.size + 1, 4, none⟩ = some (.int .i64 mb) ∧ w'.cell? ⟨W.heap.size + 1, 5, none⟩ = some (.slice A data.length c))) (ds := []) #[false, false, false, false, false, false, false, false, false, false] (by kernel_rfl) rfl rfl ⟨pv_cells HT.out.bp, ov_cells HT.out.bo⟩ (fun hHeld => ?_)
  refine pure_ (i := 1) (N := (some 59)) (v := ?_) (a' := ?_) #[false, true, false, false, false, false, false, false, false, false] rfl rfl (by kernel_rfl) (fun _ _ _ h => h) (Or.inl ⟨by rfl, ?_⟩) ?_ ?_
  rotate_left
  · intro w'
    go_simp
    with_reducible rfl
  rotate_left
  · simp only [Act.put, List.setIfInBounds_toArray, List.set_cons_zero, List.set_cons_succ, i64_w, i32_w]
    rfl
  refine pure_ (i := 4) (N := (some 62)) (v := ?_) (a' := ?_) #[false, true, false, false, true, false, false, false, false, false] rfl rfl (by kernel_rfl) (fun _ _ _ h => h) (Or.inl ⟨by rfl, ?_⟩) ?_ ?_
  rotate_left
  · intro w'
    go_simp
    with_reducible rfl
  rotate_left
  · simp only [Act.put, List.setIfInBounds_toArray, List.set_cons_zero, List.set_cons_succ, i64_w, i32_w]
    rfl
  refine pure_ (i := 5) (N := (some 63)) (v := ?_) (a' := ?_) #[false, true, false, false, true, true, false, false, false, false] rfl rfl (by kernel_rfl) (fun _ _ _ h => h) (Or.inl ⟨by rfl, ?_⟩) ?_ ?_
  rotate_left
  · intro w'
    go_simp
    with_reducible rfl
  rotate_left
  · simp only [Act.put, List.setIfInBounds_toArray, List.set_cons_zero, List.set_cons_succ, i64_w, i32_w]
    rfl
  refine take_ (i := 0) (N := (some 58)) (v := ?_) (a' := ?_) #[true, true, false, false, true, true, false, false, false, false] rfl rfl (by kernel_rfl) (fun _ _ _ h => h) (Or.inl ⟨by rfl, ?_⟩) hHeld ?_ ?_
  rotate_left
  · rintro w' ⟨⟨s0, s1, s2, s3, s4, s5, s6, s7, s8⟩, s9, s10, s11, s12, s13, s14⟩
    go_simp
    with_reducible rfl
  rotate_left
  · simp only [Act.put, List.setIfInBounds_toArray, List.set_cons_zero, List.set_cons_succ, i64_w, i32_w]
    rfl
  refine take_ (i := 2) (N := (some 60)) (v := ?_) (a' := ?_) #[true, true, true, false, true, true, false, false, false, false] rfl rfl (by kernel_rfl) (fun _ _ _ h => h) (Or.inl ⟨by rfl, ?_⟩) hHeld ?_ ?_
  rotate_left
  · rintro w' ⟨⟨s0, s1, s2, s3, s4, s5, s6, s7, s8⟩, s9, s10, s11, s12, s13, s14⟩
    go_simp
    with_reducible rfl
  rotate_left
  · simp only [Act.put, List.setIfInBounds_toArray, List.set_cons_zero, List.set_cons_succ, i64_w, i32_w]
    rfl
  refine take_ (i := 6) (N := (some 64)) (v := ?_) (a' := ?_) #[true, true, true, false, true, true, true, false, false, false] rfl rfl (by kernel_rfl) (fun _ _ _ h => h) (Or.inl ⟨by rfl, ?_⟩) hHeld ?_ ?_
  rotate_left
  · rintro w' ⟨⟨s0, s1, s2, s3, s4, s5, s6, s7, s8⟩, s9, s10, s11, s12, s13, s14⟩
    go_simp
    with_reducible rfl
  rotate_left
  · simp only [Act.put, List.setIfInBounds_toArray, List.set_cons_zero, List.set_cons_succ, i64_w, i32_w]
    rfl
  refine one_ (i := 3) (N := (some 61)) #[true, true, true, true, true, true, true, false, false, false] rfl rfl (by kernel_rfl) (by decide) (fun K hK => ?_)
  refine goes_ Try.func18 (by kernel_rfl) rfl #[.pointer (some ⟨g, 0, none⟩)] (by rfl) rfl rfl (by (try simp only [List.map_toArray, List.map_cons, List.map_nil]); first | done | rfl | (simp only [List.length_drop, List.length_take]; rfl)) ?_
  with_reducible refine (HT.out.down_ HE.out).mono ?_
  rintro e w6 ⟨rfl, h6⟩
  refine ⟨_, rfl, ?_⟩
  have HT := Aside0.mk h6
  clear h6
  refine hK.out _ _ ⟨pv_cells HT.out.bp, ov_cells HT.out.bo⟩ (fun hHeld => ?_)
  clear hK K
  refine norm_ (a' := ?_) ?_ ?_
  rotate_left
  · show Act.put _ (some 61) _ = _
    simp only [Act.put, List.setIfInBounds_toArray, List.set_cons_zero, List.set_cons_succ, i64_w, i32_w]
    rfl
  refine pure_ (i := 7) (N := (some 65)) (v := ?_) (a' := ?_) #[true, true, true, true, true, true, true, true, false, false] rfl rfl (by kernel_rfl) (fun _ _ _ h => h) (Or.inl ⟨by rfl, ?_⟩) ?_ ?_
  rotate_left
  · intro w'
    go_simp
    with_reducible rfl
  rotate_left
  · simp only [Act.put, List.setIfInBounds_toArray, List.set_cons_zero, List.set_cons_succ, i64_w, i32_w]
    rfl
  refine one_ (i := 8) (N := none) #[true, true, true, true, true, true, true, true, true, false] rfl rfl (by kernel_rfl) (by decide) (fun K hK => ?_)
  obtain ⟨z0, z1, z2, z3, z4, z5, z6, z7, z8⟩ := z71_cells HT.out.bz
  have hfo := blk_frozen HT.out.bz
  refine skip_ (w1 := ?_) (by rfl) rfl ?_ ?_
  rotate_left
  · go_simp
    rfl
  refine hK.out _ _ ⟨pv_cells (((put9_upd (W.heap.size + 1 + 1) _ _ _ _ _ _ _ _ _).block _ (blk_lt HT.out.bp) (by omega)).trans HT.out.bp), ov_cells (((put9_upd (W.heap.size + 1 + 1) _ _ _ _ _ _ _ _ _).block _ (blk_lt HT.out.bo) (by omega)).trans HT.out.bo)⟩ (fun hHeld => ?_)
  clear hK K z0 z1 z2 z3 z4 z5 z6 z7 z8 hfo
  refine pure_ (i := 9) (N := (some 5)) (v := ?_) (a' := ?_) #[true, true, true, true, true, true, true, true, true, true] rfl rfl (by kernel_rfl) (fun _ _ _ h => h) (Or.inl ⟨by rfl, ?_⟩) ?_ ?_
  rotate_left
  · intro w'
    go_simp
    with_reducible rfl
  rotate_left
  · simp only [Act.put, List.setIfInBounds_toArray, List.set_cons_zero, List.set_cons_succ, i64_w, i32_w]
    rfl
  refine done_ (by kernel_rfl) ?_
  go_wp2
  exact bodyPost_ret (ret71t Try.results41 _ _ (W.heap.size + 1 + 1) (PV g s m) rfl HT.out.done.1 rfl) rfl ⟨s, z, rfl, HT.out.done.2⟩
set_option maxHeartbeats 4000000 in
theorem order_writes (hr : Rep W B ok g p) (hB : B ≤ W.heap.size) (hm : RRep W z0 s m) (hz : ∀ k, z0 k → ¬ ok k ∧ k < W.heap.size) (ho : ∀ k, ok k → k < W.heap.size) (hR : Rel p m) (hM : m.ok) :
    Calls Try.prog 41 #[.agg (PV g s m), .agg (OV ⟨11, ot, fl, ma, mb, data⟩ A c)] W (DPost W B ok z0 g (p) (m)) := by
  have HN := Aside0.mk (PW.new (mo := ⟨11, ot, fl, ma, mb, data⟩) (A := A) (c := c) hr hm hz ho)
  have HPK := Aside0.mk (hR.ok hM)
  have HBW := Aside0.mk hB
  have HM := Aside0.mk hM
  have HR := Aside0.mk hR
  have HE := Aside0.mk (show p.wr = m.wr from hR.wr)
  clear hr hB hm hz ho hR hM
  go_enter Try.func41, Try.ntmps41
  go_upto_region 2 with fail
  refine gen_world (fun w2 => ∃ z, PW W w2 B ok z0 z (fun _ => False) g p s m ⟨11, ot, fl, ma, mb, data⟩ A c) ⟨_, HN.out⟩ ?_
  rintro w2 ⟨z, h2⟩
  have HT := Aside0.mk h2
  clear h2 HN
  obtain ⟨x0, x1, x2, x3, x4, x5, x6, x7, x8⟩ := pv_cells HT.out.bp
  obtain ⟨y0, y1, y2, y3, y4, y5⟩ := ov_cells HT.out.bo
  dsimp only at y0 y1 y2 y3 y4 y5
  have hf0 := blk_frozen HT.out.bp
  have hf1 := blk_frozen HT.out.bo
  go_upto_region 15 with fail
  clear x0 x1 x2 x3 x4 x5 x6 x7 x8 y0 y1 y2 y3 y4 y5 hf0 hf1
  have h4 := HT.out
  clear HT
  have HT := Aside0.mk (h4.next (below_drew1 (Below.refl _ _)))
  clear h4
  refine start_ (n := 10) (S := fun w' => (w'.cell? ⟨W.heap.size, 0, none⟩ = some (.pointer (some ⟨g, 0, none⟩)) ∧ w'.cell? ⟨W.heap.size, 1, none⟩ = some (.slice s.D0 m.d0.length s.D0c) ∧ w'.cell? ⟨W.heap.size, 2, none⟩ = some (.slice s.D1 m.d1.length s.D1c) ∧ w'.cell? ⟨W.heap.size, 3, none⟩ = some (.slice s.P0 m.p0.length s.P0c) ∧ w'.cell? ⟨W.heap.size, 4, none⟩ = some (.slice s.P1 m.p1.length s.P1c) ∧ w'.cell? ⟨W.heap.size, 5, none⟩ = some (.slice s.Ar m.ar.length s.Arc) ∧ w'.cell? ⟨W.heap.size, 6, none⟩ = some (.int .i64 m.cnt) ∧ w'.cell? ⟨W.heap.size, 7, none⟩ = some (.bool m.dn) ∧ w'.cell? ⟨W.heap.size, 8, none⟩ = some (.int .i64 m.wr)) ∧ (w'.cell? ⟨W.heap.size + 1, 0, none⟩ = some (.int .i64 11) ∧ w'.cell? ⟨W.heap.size + 1, 1, none⟩ = some (.bool ot) ∧ w'.cell? ⟨W.heap.size + 1, 2, none⟩ = some (.int .i64 fl) ∧ w'.cell? ⟨W.heap.size + 1, 3, none⟩ = some (.int .i64 ma) ∧ w'.cell? ⟨W.heap.size + 1, 4, none⟩ = some (.int .i64 mb) ∧ w'.cell? ⟨W.heap.size + 1, 5, none⟩ = some (.slice A data.length c))) (ds := []) #[false, false, false, false, false, false, false, false, false, false] (by kernel_rfl) rfl rfl ⟨pv_cells HT.out.bp, ov_cells HT.out.bo⟩ (fun hHeld => ?_)
  refine pure_ (i := 1) (N := (some 69)) (v := ?_) (a' := ?_) #[false, true, false, false, false, false, false, false, false, false] rfl rfl (by kernel_rfl) (fun _ _ _ h => h) (Or.inl ⟨by rfl, ?_⟩) ?_ ?_
  rotate_left
  · intro w'
    go_simp
    with_reducible rfl
  rotate_left
  · simp only [Act.put, List.setIfInBounds_toArray, List.set_cons_zero, List.set_cons_succ, i64_w, i32_w]
    rfl
  refine pure_ (i := 4) (N := (some 72)) (v := ?_) (a' := ?_) #[false, true, false, false, true, false, false, false, false, false] rfl rfl (by kernel_rfl) (fun _ _ _ h => h) (Or.inl ⟨by rfl, ?_⟩) ?_ ?_
  rotate_left
  · intro w'
    go_simp
    with_reducible rfl
  rotate_left
  · simp only [Act.put, List.setIfInBounds_toArray, List.set_cons_zero, List.set_cons_succ, i64_w, i32_w]
    rfl
  refine pure_ (i := 5) (N := (some 73)) (v := ?_) (a' := ?_) #[false, true, false, false, true, true, false, false, false, false] rfl rfl (by kernel_rfl) (fun _ _ _ h => h) (Or.inl ⟨by rfl, ?_⟩) ?_ ?_
  rotate_left
  · intro w'
    go_simp
    with_reducible rfl
  rotate_left
  · simp only [Act.put, List.setIfInBounds_toArray, List.set_cons_zero, List.set_cons_succ, i64_w, i32_w]
    rfl
  refine take_ (i := 0) (N := (some 68)) (v := ?_) (a' := ?_) #[true, true, false, false, true, true, false, false, false, false] rfl rfl (by kernel_rfl) (fun _ _ _ h => h) (Or.inl ⟨by rfl, ?_⟩) hHeld ?_ ?_
  rotate_left
  · rintro w' ⟨⟨s0, s1, s2, s3, s4, s5, s6, s7, s8⟩, s9, s10, s11, s12, s13, s14⟩
    go_simp
    with_reducible rfl
  rotate_left
  · simp only [Act.put, List.setIfInBounds_toArray, List.set_cons_zero, List.set_cons_succ, i64_w, i32_w]
    rfl
  refine take_ (i := 2) (N := (some 70)) (v := ?_) (a' := ?_) #[true, true, true, false, true, true, false, false, false, false] rfl rfl (by kernel_rfl) (fun _ _ _ h => h) (Or.inl ⟨by rfl, ?_⟩) hHeld ?_ ?_
  rotate_left
  · rintro w' ⟨⟨s0, s1, s2, s3, s4, s5, s6, s7, s8⟩, s9, s10, s11, s12, s13, s14⟩
    go_simp
    with_reducible rfl
  rotate_left
  · simp only [Act.put, List.setIfInBounds_toArray, List.set_cons_zero, List.set_cons_succ, i64_w, i32_w]
    rfl
  refine take_ (i := 6) (N := (some 74)) (v := ?_) (a' := ?_) #[true, true, true, false, true, true, true, false, false, false] rfl rfl (by kernel_rfl) (fun _ _ _ h => h) (Or.inl ⟨by rfl, ?_⟩) hHeld ?_ ?_
  rotate_left
  · rintro w' ⟨⟨s0, s1, s2, s3, s4, s5, s6, s7, s8⟩, s9, s10, s11, s12, s13, s14⟩
    go_simp
    with_reducible rfl
  rotate_left
  · simp only [Act.put, List.setIfInBounds_toArray, List.set_cons_zero, List.set_cons_succ, i64_w, i32_w]
    rfl
  refine one_ (i := 3) (N := (some 71)) #[true, true, true, true, true, true, true, false, false, false] rfl rfl (by kernel_rfl) (by decide) (fun K hK => ?_)
  refine goes_ Try.func19 (by kernel_rfl) rfl #[.pointer (some ⟨g, 0, none⟩)] (by rfl) rfl rfl (by (try simp only [List.map_toArray, List.map_cons, List.map_nil]); first | done | rfl | (simp only [List.length_drop, List.length_take]; rfl)) ?_
  with_reducible refine (HT.out.writes_ HE.out).mono ?_
  rintro e w6 ⟨rfl, h6⟩
  refine ⟨_, rfl, ?_⟩
  have HT := Aside0.mk h6
  clear h6
  refine hK.out _ _ ⟨pv_cells HT.out.bp, ov_cells HT.out.bo⟩ (fun hHeld => ?_)
  clear hK K
  refine norm_ (a' := ?_) ?_ ?_
  rotate_left
  · show Act.put _ (some 71) _ = _
    simp only [Act.put, List.setIfInBounds_toArray, List.set_cons_zero, List.set_cons_succ, i64_w, i32_w]
    rfl
  refine pure_ (i := 7) (N := (some 75)) (v := ?_) (a' := ?_) #[true, true, true, true, true, true, true, true, false, false] rfl rfl (by kernel_rfl) (fun _ _ _ h => h) (Or.inl ⟨by rfl, ?_⟩) ?_ ?_
  rotate_left
  · intro w'
    go_simp
    with_reducible rfl
  rotate_left
  · simp only [Act.put, List.setIfInBounds_toArray, List.set_cons_zero, List.set_cons_succ, i64_w, i32_w]
    rfl
  refine one_ (i := 8) (N := none) #[true, true, true, true, true, true, true, true, true, false] rfl rfl (by kernel_rfl) (by decide) (fun K hK => ?_)
  obtain ⟨z0, z1, z2, z3, z4, z5, z6, z7, z8⟩ := z71_cells HT.out.bz
  have hfo := blk_frozen HT.out.bz
  refine skip_ (w1 := ?_) (by rfl) rfl ?_ ?_
  rotate_left
  · go_simp
    rfl
  refine hK.out _ _ ⟨pv_cells (((put9_upd (W.heap.size + 1 + 1) _ _ _ _ _ _ _ _ _).block _ (blk_lt HT.out.bp) (by omega)).trans HT.out.bp), ov_cells (((put9_upd (W.heap.size + 1 + 1) _ _ _ _ _ _ _ _ _).block _ (blk_lt HT.out.bo) (by omega)).trans HT.out.bo)⟩ (fun hHeld => ?_)
  clear hK K z0 z1 z2 z3 z4 z5 z6 z7 z8 hfo
  refine pure_ (i := 9) (N := (some 5)) (v := ?_) (a' := ?_) #[true, true, true, true, true, true, true, true, true, true] rfl rfl (by kernel_rfl) (fun _ _ _ h => h) (Or.inl ⟨by rfl, ?_⟩) ?_ ?_
  rotate_left
  · intro w'
    go_simp
    with_reducible rfl
  rotate_left
  · simp only [Act.put, List.setIfInBounds_toArray, List.set_cons_zero, List.set_cons_succ, i64_w, i32_w]
    rfl
  refine done_ (by kernel_rfl) ?_
  go_wp2
  exact bodyPost_ret (ret71t Try.results41 _ _ (W.heap.size + 1 + 1) (PV g s m) rfl HT.out.done.1 rfl) rfl ⟨s, z, rfl, HT.out.done.2⟩
set_option maxHeartbeats 4000000 in
theorem order_disarm (hr : Rep W B ok g p) (hB : B ≤ W.heap.size) (hm : RRep W z0 s m) (hz : ∀ k, z0 k → ¬ ok k ∧ k < W.heap.size) (ho : ∀ k, ok k → k < W.heap.size) (hR : Rel p m) (hM : m.ok) :
    Calls Try.prog 41 #[.agg (PV g s m), .agg (OV ⟨8, ot, fl, ma, mb, data⟩ A c)] W (DPost W B ok z0 g (p.disarm) (m.disarm)) := by
  have HN := Aside0.mk (PW.new (mo := ⟨8, ot, fl, ma, mb, data⟩) (A := A) (c := c) hr hm hz ho)
  have HPK := Aside0.mk (hR.ok hM)
  have HBW := Aside0.mk hB
  have HM := Aside0.mk hM
  have HR := Aside0.mk hR
  clear hr hB hm hz ho hR hM
  go_enter Try.func41, Try.ntmps41
  go_upto_region 2 with fail
  refine gen_world (fun w2 => ∃ z, PW W w2 B ok z0 z (fun _ => False) g p s m ⟨8, ot, fl, ma, mb, data⟩ A c) ⟨_, HN.out⟩ ?_
  rintro w2 ⟨z, h2⟩
  have HT := Aside0.mk h2
  clear h2 HN
  obtain ⟨x0, x1, x2, x3, x4, x5, x6, x7, x8⟩ := pv_cells HT.out.bp
  obtain ⟨y0, y1, y2, y3, y4, y5⟩ := ov_cells HT.out.bo
  dsimp only at y0 y1 y2 y3 y4 y5
  have hf0 := blk_frozen HT.out.bp
  have hf1 := blk_frozen HT.out.bo
  go_wp2_with fail
  refine (rdisarm_post HT.out.rr).mono ?_
  rintro e w3 ⟨s2, rfl, hr3, hb⟩
  have h3 := HT.out.next hb
  clear x0 x1 x2 x3 x4 x5 x6 x7 x8 y0 y1 y2 y3 y4 y5 hf0 hf1
  obtain ⟨x0, x1, x2, x3, x4, x5, x6, x7, x8⟩ := pv_cells h3.bp
  obtain ⟨y0, y1, y2, y3, y4, y5⟩ := ov_cells h3.bo
  dsimp only at y0 y1 y2 y3 y4 y5
  have hf0 := blk_frozen h3.bp
  have hf1 := blk_frozen h3.bo
  have HD := Aside0.mk (HT.out.doc hr3 hb)
  obtain ⟨m', hm'⟩ : ∃ m', m' = m.disarm := ⟨_, rfl⟩
  clear h3 hr3 hb
  go_upto_region 8 with fail
  refine gen_world (fun w4 => ∃ z s, PW W w4 B ok z0 z (fun _ => False) g p s m.disarm ⟨8, ot, fl, ma, mb, data⟩ A c) ⟨_, _, HD.out⟩ ?_
  clear x0 x1 x2 x3 x4 x5 x6 x7 x8 y0 y1 y2 y3 y4 y5 hf0 hf1
  clear HT HD
  rintro w4 ⟨z, s, h4⟩
  have HT := Aside0.mk h4
  clear h4
  obtain ⟨x0, x1, x2, x3, x4, x5, x6, x7, x8⟩ := pv_cells HT.out.bp
  obtain ⟨y0, y1, y2, y3, y4, y5⟩ := ov_cells HT.out.bo
  dsimp only at y0 y1 y2 y3 y4 y5
  have hf0 := blk_frozen HT.out.bp
  have hf1 := blk_frozen HT.out.bo
  go_wp2_with fail
  refine HT.out.disarm_.mono ?_
  rintro e w5 ⟨⟨v, rfl⟩, h5⟩
  have HT := Aside0.mk h5
  clear h5 x0 x1 x2 x3 x4 x5 x6 x7 x8 y0 y1 y2 y3 y4 y5 hf0 hf1
  obtain ⟨x0, x1, x2, x3, x4, x5, x6, x7, x8⟩ := pv_cells HT.out.bp
  obtain ⟨y0, y1, y2, y3, y4, y5⟩ := ov_cells HT.out.bo
  dsimp only at y0 y1 y2 y3 y4 y5
  have hf0 := blk_frozen HT.out.bp
  have hf1 := blk_frozen HT.out.bo
  obtain ⟨z0, z1, z2, z3, z4, z5, z6, z7, z8⟩ := z71_cells HT.out.bz
  have hfo := blk_frozen HT.out.bz
  go_wp2
  exact bodyPost_ret (ret71t Try.results41 _ _ (W.heap.size + 1 + 1) (PV g s m.disarm) rfl HT.out.done.1 rfl) rfl ⟨s, z, rfl, HT.out.done.2⟩
set_option maxHeartbeats 4000000 in
theorem order_none (hr : Rep W B ok g p) (hB : B ≤ W.heap.size) (hm : RRep W z0 s m) (hz : ∀ k, z0 k → ¬ ok k ∧ k < W.heap.size) (ho : ∀ k, ok k → k < W.heap.size) (hR : Rel p m) (hM : m.ok) (hq : ¬ (kd = 7 ∨ kd = 8 ∨ kd = 9 ∨ kd = 10 ∨ kd = 11)) :
    Calls Try.prog 41 #[.agg (PV g s m), .agg (OV ⟨kd, ot, fl, ma, mb, data⟩ A c)] W (DPost W B ok z0 g (p) (m)) := by
  have HN := Aside0.mk (PW.new (mo := ⟨kd, ot, fl, ma, mb, data⟩) (A := A) (c := c) hr hm hz ho)
  have HPK := Aside0.mk (hR.ok hM)
  have HBW := Aside0.mk hB
  have HM := Aside0.mk hM
  have HR := Aside0.mk hR
  have d7 : (kd == (7 : Int)) = false := by simp; omega
  have d8 : (kd == (8 : Int)) = false := by simp; omega
  have d9 : (kd == (9 : Int)) = false := by simp; omega
  have d10 : (kd == (10 : Int)) = false := by simp; omega
  have d11 : (kd == (11 : Int)) = false := by simp; omega
  clear hr hB hm hz ho hR hM hq
  go_enter Try.func41, Try.ntmps41
  go_upto_region 2 with fail
  refine gen_world (fun w2 => ∃ z, PW W w2 B ok z0 z (fun _ => False) g p s m ⟨kd, ot, fl, ma, mb, data⟩ A c) ⟨_, HN.out⟩ ?_
  rintro w2 ⟨z, h2⟩
  have HT := Aside0.mk h2
  clear h2 HN
  obtain ⟨x0, x1, x2, x3, x4, x5, x6, x7, x8⟩ := pv_cells HT.out.bp
  obtain ⟨y0, y1, y2, y3, y4, y5⟩ := ov_cells HT.out.bo
  dsimp only at y0 y1 y2 y3 y4 y5
  have hf0 := blk_frozen HT.out.bp
  have hf1 := blk_frozen HT.out.bo
  obtain ⟨z0, z1, z2, z3, z4, z5, z6, z7, z8⟩ := z71_cells HT.out.bz
  have hfo := blk_frozen HT.out.bz
  go_wp2
  exact bodyPost_ret (ret71t Try.results41 _ _ (W.heap.size + 1 + 1) (PV g s m) rfl HT.out.done.1 rfl) rfl ⟨s, z, rfl, HT.out.done.2⟩
end Go.Proofs.Yticokogggepfoaa.D
namespace Go.Proofs.Yticokogggepfoaa.D
open Go.RowKit Go.Proofs.YticokogggepfoaaW.PrintWords Go.Proofs.YticokogggepfoaaW.PrintLast Go.Proofs.YticokogggepfoaaW.PrintMore Go.Proofs.Yticokogggepfoaa.G
attribute [local go_sem] max2_int min2_int max_two min_two max_three min_three max_four min_four
set_option linter.unusedVariables false
set_option linter.unusedSimpArgs false
set_option maxRecDepth 100000
attribute [local go_sem ↓] Go.wp_at_zero Go.wp_at_succ
variable {W : World} {B : Nat} {ok z z0 : Nat → Prop} {g : Nat} {p : PM} {s : RS} {m m' : RM} {er : Int} {A : Option Addr} {c : Nat} {ot : Bool} {kd fl ma mb : Int} {data : List Int}
theorem row_pre {w : World} {base : Nat} {o : Nat → Prop} {A : Option Addr} {c : Nat} {lg hd : List Int} (h : Kd.R By 5 w base o (.slice A lg.length c) lg) (hp : lg.take hd.length = hd) (hl : hd.length ≤ lg.length) : Kd.C By w A hd.length hd := by
  have h_ := Kd.C_take (m := hd.length) (Kd.R_reads' h).2.2 hl
  rwa [hp] at h_
theorem row_post {w : World} {base k : Nat} {o : Nat → Prop} {A : Option Addr} {c : Nat} {lg tl : List Int} (h : Kd.R By 5 w base o (.slice A lg.length c) lg) (hp : lg.drop k = tl) (hk : k ≤ lg.length) (hc : lg.length ≤ c) : Kd.C By w (if c = k then A else A.map (·.add (k * 1))) tl.length tl := by
  have h_ := Kd.C_drop (m := k) (c := c) (Kd.R_reads' h).2.2 hk hc
  rwa [hp] at h_
theorem row_upd {w w' : World} {base : Nat} {o S : Nat → Prop} {v : Value} {l : List Int} (h : Kd.R By 5 w base o v l) (hu : Upd w w' S) (hS : ∀ k, o k → ¬ S k) : Kd.R By 5 w' base o v l := Kd.R_step h (fun k hk hlt => hu.block k hlt (hS k hk))
theorem row_below {w w' : World} {base : Nat} {o : Nat → Prop} {v : Value} {l : List Int} (h : Kd.R By 5 w base o v l) (hb : Below w.heap.size w w') : Kd.R By 5 w' base o v l := Kd.R_step h (fun k _ hlt => hb.block k hlt)
theorem eq_t {w : World} {A B : Option Addr} {c b n1 n2 : Nat} {l r : List Int} (e : l = r) (h1 : n1 = l.length) (h2 : n2 = r.length) (h : Kd.C By w A l.length l) (hc : l.length ≤ c) (h3 : Kd.C By w B r.length r) (hb : r.length ≤ b) (hl : l.length ≤ 4611686018427387904) :
    Calls Try.prog 20 #[.slice A n1 c, .slice B n2 b] w fun e w' => e = .returned (.bool true) ∧ ∃ m, w' = w.drewN m := by
  subst h1 h2
  refine (arrearslaw5_equal.calls _ A c l B b r _ w h hc h3 hb (equal_f l r hl)).mono fun e' w' ⟨he, hd⟩ => ⟨?_, hd.out⟩
  rw [he, decide_eq_true e]
theorem fresh_next {W w w' : World} {l : List Int} {v : Value} (h : Fresh W l v w) (hb : Below w.heap.size w w') : Fresh W l v w' := ⟨Kd.R_step h.1 (fun k _ hlt => hb.block k hlt), h.2.trans (hb.mono h.2.size)⟩
theorem rsync_any (h : RRep W z s m) (hm : m.ok) (n : Int) : Calls Try.prog 51 #[.agg (RC s m), .int .i64 n] W (RPost W z (m.syncf n)) := by
  by_cases hb : badF n
  · exact rsync_no h n (.inl hb)
  by_cases hd : m.dn = true
  · exact rsync_no h n (.inr hd)
  · exact rsync_go h hm n hb (by simpa using hd)
theorem rtrunc_any (h : RRep W z s m) (hm : m.ok) (n sz : Int) : Calls Try.prog 52 #[.agg (RC s m), .int .i64 n, .int .i64 sz] W (RPost W z (m.trunc n sz)) := by
  by_cases hb : badF n
  · exact rtrunc_no h n sz (.inl hb)
  by_cases hd : m.dn = true
  · exact rtrunc_no h n sz (.inr hd)
  · exact rtrunc_go h hm n hb (by simpa using hd) sz
theorem rappend_any (h : RRep W z s m) (hm : m.ok) (n : Int) {Ad : Option Addr} {cd : Nat} {l : List Int} (hC : Kd.C By W Ad l.length l) (hdc : l.length ≤ cd) (hdl : l.length ≤ 140737488355320) : Calls Try.prog 50 #[.agg (RC s m), .int .i64 n, .slice Ad l.length cd] W (RPost W z (m.append n l)) := by
  by_cases hb : badF n
  · exact rappend_no h n Ad cd l (.inl hb)
  by_cases hd : m.dn = true
  · exact rappend_no h n Ad cd l (.inr hd)
  · exact rappend_go h hm n hb (by simpa using hd) Ad cd l hC hdc hdl
theorem wb_row {w : World} {base : Nat} {okr : Nat → Prop} {v : Value} {l : List Int} (h : Kd.R By 5 w base okr v l) : Wb base w (fun k => ¬ (okr k ∧ base ≤ k ∧ k < w.heap.size)) v l.length := by
  obtain ⟨A, c, rfl, h1⟩ := Kd.R_slice_len h
  refine ⟨A, c, rfl, h1, fun hn => ?_⟩
  have hC := (Kd.R_reads' h).2.2
  obtain ⟨ad, rfl, hc⟩ := hC.2.2 hn
  have h0 : ∀ j, j < l.length → ∃ u, w.cell? (ad.add j) = some u := fun j hj => by
    obtain ⟨c, hl, hK, hcc⟩ := hc j l[j] (by simp [hj])
    obtain rfl : c = [.int .u8 l[j]] := hK
    exact ⟨_, by have h_ := hcc 0 _ rfl; rw [Nat.add_zero, show By.sz = 1 from rfl, Nat.mul_one] at h_; exact h_⟩
  obtain ⟨b, f, st⟩ := ad
  obtain ⟨cells, hb⟩ := Kd.R_typed h b rfl
  have hk := Kd.R_base h b rfl
  have hok := h.1 b rfl
  obtain ⟨u, hu⟩ := h0 0 hn
  obtain ⟨u2, hu2⟩ := h0 (l.length - 1) (by omega)
  have hs : st = none := by
    cases st with
    | none => rfl
    | some st => simp [World.cell?, Addr.add, hb] at hu
  subst hs
  refine ⟨b, f, cells, rfl, fun h_ => h_ ⟨hok, hk, blk_lt hb⟩, hk, hb, ?_⟩
  by_cases h1' : l.length = 1
  · rw [h1']; simp [World.cell?, Addr.add, hb] at hu; obtain ⟨hz, _⟩ := Array.getElem?_eq_some_iff.1 hu; omega
  · have e : (⟨b, f, none⟩ : Addr).add (l.length - 1) = ⟨b, f + (l.length - 1), none⟩ := by unfold Addr.add; rw [if_neg (by omega)]
    rw [e] at hu2
    simp only [World.cell?, hb, Option.isSome_none, Bool.false_eq_true, if_false] at hu2
    obtain ⟨hz, _⟩ := Array.getElem?_eq_some_iff.1 hu2; omega
theorem Wb.shorter {b : Nat} {w : World} {o : Nat → Prop} {A : Option Addr} {n k c : Nat} (h : Wb b w o (.slice A n c) n) (hk : k ≤ n) : Wb b w o (.slice A k c) k := by
  obtain ⟨A', c', e, h1, h2⟩ := h
  injection e with e1 e2 e3
  subst e1 e3
  refine ⟨A, c, rfl, by omega, fun hn => ?_⟩
  obtain ⟨b', f, cells, e, h3, h4, h5, h6⟩ := h2 (by omega)
  exact ⟨b', f, cells, e, h3, h4, h5, by omega⟩
set_option maxHeartbeats 4000000 in
theorem write_sync (hr : Rep W B ok g p) (hB : B ≤ W.heap.size) (hm : RRep W z0 s m) (hz : ∀ k, z0 k → ¬ ok k ∧ k < W.heap.size) (ho : ∀ k, ok k → k < W.heap.size) (hR : Rel p m) (hM : m.ok) (hq : m.syncf fl = (m', er)) :
    Calls Try.prog 40 #[.agg (PV g s m), .agg (OV ⟨3, ot, fl, ma, mb, data⟩ A c)] W (DPost W B ok z0 g ((p.syncf fl).1) (m')) := by
  have HN := Aside0.mk (PW.new (mo := ⟨3, ot, fl, ma, mb, data⟩) (A := A) (c := c) hr hm hz ho)
  have HPK := Aside0.mk (hR.ok hM)
  have HBW := Aside0.mk hB
  have HM := Aside0.mk hM
  have HR := Aside0.mk hR
  have HE := Aside0.mk (show (p.syncf fl).2 = er by rw [(hR.syncf hM fl).2.1, hq])
  have HQ := Aside0.mk hq
  clear hr hB hm hz ho hR hM hq
  go_enter Try.func40, Try.ntmps40
  go_upto_region 1 with fail
  refine gen_world (fun w2 => ∃ z, PW W w2 B ok z0 z (fun _ => False) g p s m ⟨3, ot, fl, ma, mb, data⟩ A c) ⟨_, HN.out⟩ ?_
  rintro w2 ⟨z, h2⟩
  have HT := Aside0.mk h2
  clear h2 HN
  obtain ⟨x0, x1, x2, x3, x4, x5, x6, x7, x8⟩ := pv_cells HT.out.bp
  obtain ⟨y0, y1, y2, y3, y4, y5⟩ := ov_cells HT.out.bo
  dsimp only at y0 y1 y2 y3 y4 y5
  have hf0 := blk_frozen HT.out.bp
  have hf1 := blk_frozen HT.out.bo
  go_wp2_with fail
  refine (show Calls Try.prog 51 _ _ (RPost _ z (m', er)) from HQ.out ▸ rsync_any HT.out.rr HM.out fl).mono ?_
  rintro e w3 ⟨s2, rfl, hr3, hb⟩
  have h3 := HT.out.next hb
  clear x0 x1 x2 x3 x4 x5 x6 x7 x8 y0 y1 y2 y3 y4 y5 hf0 hf1
  obtain ⟨x0, x1, x2, x3, x4, x5, x6, x7, x8⟩ := pv_cells h3.bp
  obtain ⟨y0, y1, y2, y3, y4, y5⟩ := ov_cells h3.bo
  dsimp only at y0 y1 y2 y3 y4 y5
  have hf0 := blk_frozen h3.bp
  have hf1 := blk_frozen h3.bo
  have HD := Aside0.mk (HT.out.doc hr3 hb)
  clear h3 hr3 hb
  go_upto_region 19 with fail
  refine gen_world (fun w4 => ∃ z s, PW W w4 B ok z0 z (fun _ => False) g p s m' ⟨3, ot, fl, ma, mb, data⟩ A c) ⟨_, _, HD.out⟩ ?_
  clear x0 x1 x2 x3 x4 x5 x6 x7 x8 y0 y1 y2 y3 y4 y5 hf0 hf1
  clear HT HD
  rintro w4 ⟨z, s, h4⟩
  have HT := Aside0.mk h4
  clear h4
  obtain ⟨x0, x1, x2, x3, x4, x5, x6, x7, x8⟩ := pv_cells HT.out.bp
  obtain ⟨y0, y1, y2, y3, y4, y5⟩ := ov_cells HT.out.bo
  dsimp only at y0 y1 y2 y3 y4 y5
  have hf0 := blk_frozen HT.out.bp
  have hf1 := blk_frozen HT.out.bo
  go_wp2_with fail
  refine (HT.out.sync_ HPK.out HBW.out HE.out).mono ?_
  rintro e w5 ⟨rfl, h5⟩
  have HT := Aside0.mk h5
  clear h5 x0 x1 x2 x3 x4 x5 x6 x7 x8 y0 y1 y2 y3 y4 y5 hf0 hf1
  obtain ⟨x0, x1, x2, x3, x4, x5, x6, x7, x8⟩ := pv_cells HT.out.bp
  obtain ⟨y0, y1, y2, y3, y4, y5⟩ := ov_cells HT.out.bo
  dsimp only at y0 y1 y2 y3 y4 y5
  have hf0 := blk_frozen HT.out.bp
  have hf1 := blk_frozen HT.out.bo
  obtain ⟨z0, z1, z2, z3, z4, z5, z6, z7, z8⟩ := z71_cells HT.out.bz
  have hfo := blk_frozen HT.out.bz
  go_wp2
  exact bodyPost_ret (ret71t Try.results40 _ _ (W.heap.size + 1 + 1) (PV g s m') rfl HT.out.done.1 rfl) rfl ⟨s, z, rfl, HT.out.done.2⟩
set_option maxHeartbeats 4000000 in
theorem write_trunc (hr : Rep W B ok g p) (hB : B ≤ W.heap.size) (hm : RRep W z0 s m) (hz : ∀ k, z0 k → ¬ ok k ∧ k < W.heap.size) (ho : ∀ k, ok k → k < W.heap.size) (hR : Rel p m) (hM : m.ok) (hq : m.trunc fl ma = (m', er)) :
    Calls Try.prog 40 #[.agg (PV g s m), .agg (OV ⟨4, ot, fl, ma, mb, data⟩ A c)] W (DPost W B ok z0 g ((p.trunc fl ma).1) (m')) := by
  have HN := Aside0.mk (PW.new (mo := ⟨4, ot, fl, ma, mb, data⟩) (A := A) (c := c) hr hm hz ho)
  have HPK := Aside0.mk (hR.ok hM)
  have HBW := Aside0.mk hB
  have HM := Aside0.mk hM
  have HR := Aside0.mk hR
  have HE := Aside0.mk (show (p.trunc fl ma).2 = er by rw [(hR.trunc hM fl ma).2.1, hq])
  have HQ := Aside0.mk hq
  clear hr hB hm hz ho hR hM hq
  go_enter Try.func40, Try.ntmps40
  go_upto_region 1 with fail
  refine gen_world (fun w2 => ∃ z, PW W w2 B ok z0 z (fun _ => False) g p s m ⟨4, ot, fl, ma, mb, data⟩ A c) ⟨_, HN.out⟩ ?_
  rintro w2 ⟨z, h2⟩
  have HT := Aside0.mk h2
  clear h2 HN
  obtain ⟨x0, x1, x2, x3, x4, x5, x6, x7, x8⟩ := pv_cells HT.out.bp
  obtain ⟨y0, y1, y2, y3, y4, y5⟩ := ov_cells HT.out.bo
  dsimp only at y0 y1 y2 y3 y4 y5
  have hf0 := blk_frozen HT.out.bp
  have hf1 := blk_frozen HT.out.bo
  go_wp2_with fail
  refine (show Calls Try.prog 52 _ _ (RPost _ z (m', er)) from HQ.out ▸ rtrunc_any HT.out.rr HM.out fl ma).mono ?_
  rintro e w3 ⟨s2, rfl, hr3, hb⟩
  have h3 := HT.out.next hb
  clear x0 x1 x2 x3 x4 x5 x6 x7 x8 y0 y1 y2 y3 y4 y5 hf0 hf1
  obtain ⟨x0, x1, x2, x3, x4, x5, x6, x7, x8⟩ := pv_cells h3.bp
  obtain ⟨y0, y1, y2, y3, y4, y5⟩ := ov_cells h3.bo
  dsimp only at y0 y1 y2 y3 y4 y5
  have hf0 := blk_frozen h3.bp
  have hf1 := blk_frozen h3.bo
  have HD := Aside0.mk (HT.out.doc hr3 hb)
  clear h3 hr3 hb
  go_upto_region 22 with fail
  refine gen_world (fun w4 => ∃ z s, PW W w4 B ok z0 z (fun _ => False) g p s m' ⟨4, ot, fl, ma, mb, data⟩ A c) ⟨_, _, HD.out⟩ ?_
  clear x0 x1 x2 x3 x4 x5 x6 x7 x8 y0 y1 y2 y3 y4 y5 hf0 hf1
  clear HT HD
  rintro w4 ⟨z, s, h4⟩
  have HT := Aside0.mk h4
  clear h4
  obtain ⟨x0, x1, x2, x3, x4, x5, x6, x7, x8⟩ := pv_cells HT.out.bp
  obtain ⟨y0, y1, y2, y3, y4, y5⟩ := ov_cells HT.out.bo
  dsimp only at y0 y1 y2 y3 y4 y5
  have hf0 := blk_frozen HT.out.bp
  have hf1 := blk_frozen HT.out.bo
  go_wp2_with fail
  refine (HT.out.trunc_ HPK.out HBW.out HE.out).mono ?_
  rintro e w5 ⟨rfl, h5⟩
  have HT := Aside0.mk h5
  clear h5 x0 x1 x2 x3 x4 x5 x6 x7 x8 y0 y1 y2 y3 y4 y5 hf0 hf1
  obtain ⟨x0, x1, x2, x3, x4, x5, x6, x7, x8⟩ := pv_cells HT.out.bp
  obtain ⟨y0, y1, y2, y3, y4, y5⟩ := ov_cells HT.out.bo
  dsimp only at y0 y1 y2 y3 y4 y5
  have hf0 := blk_frozen HT.out.bp
  have hf1 := blk_frozen HT.out.bo
  obtain ⟨z0, z1, z2, z3, z4, z5, z6, z7, z8⟩ := z71_cells HT.out.bz
  have hfo := blk_frozen HT.out.bz
  go_wp2
  exact bodyPost_ret (ret71t Try.results40 _ _ (W.heap.size + 1 + 1) (PV g s m') rfl HT.out.done.1 rfl) rfl ⟨s, z, rfl, HT.out.done.2⟩
end Go.Proofs.Yticokogggepfoaa.D
namespace Go.Proofs.Yticokogggepfoaa.D
open Go.RowKit Go.Proofs.YticokogggepfoaaW.PrintWords Go.Proofs.YticokogggepfoaaW.PrintLast Go.Proofs.YticokogggepfoaaW.PrintMore Go.Proofs.Yticokogggepfoaa.G
attribute [local go_sem] max2_int min2_int max_two min_two max_three min_three max_four min_four
set_option linter.unusedVariables false
set_option linter.unusedSimpArgs false
set_option maxRecDepth 100000
attribute [local go_sem ↓] Go.wp_at_zero Go.wp_at_succ
variable {W : World} {B : Nat} {ok z z0 : Nat → Prop} {g : Nat} {p : PM} {s : RS} {m m' : RM} {er : Int} {A : Option Addr} {c : Nat} {ot : Bool} {kd fl ma mb : Int} {data : List Int}
set_option maxHeartbeats 4000000 in
theorem write_app1 {hd : List Int} (hr : Rep W B ok g p) (hB : B ≤ W.heap.size) (hm : RRep W z0 s m) (hz : ∀ k, z0 k → ¬ ok k ∧ k < W.heap.size) (ho : ∀ k, ok k → k < W.heap.size) (hR : Rel p m) (hM : m.ok) (hq : m.append fl hd = (m', er)) (hhd : hd = OM.hand ⟨1, ot, fl, ma, mb, data⟩) (hC : ∀ w', Upd W w' ok → Kd.C By w' A data.length data) (hcc : data.length ≤ c) (hl : data.length < 140737488355000) :
    Calls Try.prog 40 #[.agg (PV g s m), .agg (OV ⟨1, ot, fl, ma, mb, data⟩ A c)] W (DPost W B ok z0 g ((p.append fl hd).1) (m')) := by
  have HN := Aside0.mk (PW.new (mo := ⟨1, ot, fl, ma, mb, data⟩) (A := A) (c := c) hr hm hz ho)
  have HPK := Aside0.mk (hR.ok hM)
  have HBW := Aside0.mk hB
  have HM := Aside0.mk hM
  have HR := Aside0.mk hR
  have HE := Aside0.mk (show (p.append fl hd).2 = er by rw [(hR.append hM fl hd).2.1, hq])
  have HQ := Aside0.mk hq
  have HH := Aside0.mk hhd
  have HC := Aside0.mk hC
  have HCC := Aside0.mk hcc
  have HL := Aside0.mk hl
  have HHL := Aside0.mk (show hd.length ≤ 140737488355000 by rw [hhd]; unfold OM.hand; dsimp only; (first | (rw [if_neg (by omega)]; omega) | (rw [if_pos rfl]; split <;> simp <;> omega)))
  clear hhd hC hcc hl
  clear hr hB hm hz ho hR hM hq
  go_enter Try.func40, Try.ntmps40
  go_upto_region 1 with fail
  refine gen_world (fun w2 => ∃ z, PW W w2 B ok z0 z (fun _ => False) g p s m ⟨1, ot, fl, ma, mb, data⟩ A c) ⟨_, HN.out⟩ ?_
  rintro w2 ⟨z, h2⟩
  have HT := Aside0.mk h2
  clear h2 HN
  obtain ⟨x0, x1, x2, x3, x4, x5, x6, x7, x8⟩ := pv_cells HT.out.bp
  obtain ⟨y0, y1, y2, y3, y4, y5⟩ := ov_cells HT.out.bo
  dsimp only at y0 y1 y2 y3 y4 y5
  have hf0 := blk_frozen HT.out.bp
  have hf1 := blk_frozen HT.out.bo
  go_wp2_with fail
  refine (hand_calls (m := ⟨1, ot, fl, ma, mb, data⟩) (HC.out _ HT.out.upd) HCC.out (by have := HL.out; dsimp only; omega)).mono ?_
  rintro e w3 ⟨v, rfl, hf⟩
  rw [← HH.out] at hf
  obtain ⟨A5, c5, rfl, _⟩ := Kd.R_slice_len hf.1
  have HF := Aside0.mk hf
  clear hf
  obtain ⟨tl, htl⟩ : ∃ tl : List Int, tl = [201, 202, 203] := ⟨_, rfl⟩
  have htn : tl.length = 3 := by rw [htl]; rfl
  have HTN := Aside0.mk htn
  obtain ⟨lg, hlg⟩ : ∃ lg : List Int, lg = hd ++ tl := ⟨_, rfl⟩
  have hlen : lg.length = hd.length + 3 := by rw [hlg, List.length_append, htn]
  have HLEN := Aside0.mk hlen
  have HTK := Aside0.mk (show lg.take hd.length = hd by rw [hlg, List.take_left'] ; rfl)
  have HDR := Aside0.mk (show lg.drop hd.length = tl by rw [hlg, List.drop_left'] ; rfl)
  have HLG := Aside0.mk hlg
  have HTL := Aside0.mk htl
  clear hlen hlg htl htn
  go_wp2_with (first | ((with_reducible refine gate_dst (N := 19) rfl ?_); refine Kd.R_lit By _ 5 ?hg (N := 19) ?hd (xs := ([201, 202, 203] : List Int)) (inner := [.int .u8 201, .int .u8 202, .int .u8 203]) (ok := fun _ => True) (okp := fun _ => True) ?hr ?hp (fun _ hk => hk) trivial (Below.refl _ _) (Nat.le_refl _) (by simp) ?_; (case hd => rfl); (case hg => rfl); (case hr => first | (go_simp; done) | (go_simp; rfl)); (case hp => exact (Reps.one (show Kd.M By _ _ _ 201 [.int .u8 201] from rfl) (Reps.one (show Kd.M By _ _ _ 202 [.int .u8 202] from rfl) (Reps.one (show Kd.M By _ _ _ 203 [.int .u8 203] from rfl) (Reps.none _ _))))); intro v4 w4 ho6 hb4 hg_ hnew_; rw [← HTL.out] at ho6; obtain ⟨A6, c6, rfl, _⟩ := Kd.R_slice_len ho6; have HLI := Aside0.mk ho6; have HF := Aside0.mk (fresh_next HF.out hb4); clear ho6 hb4 hg_ hnew_) | ((refine gate_builtin (b := .append) (xs := #[.tmp 18, .tmp 19]) rfl ?_); at_builtin; refine Kd.R_append_rows By (w0 := w2) w2.heap.size rfl (.tmp 18) (.tmp 19) 28 5 (.int .u8 0) 1 rfl Try.underlying28 G.info5 rfl (by decide) (by decide) (.slice A5 hd.length c5) hd tl A6 tl.length c6 (fun _ => True) (fun _ => False) rfl rfl HF.out.1 (Kd.R_reads' HLI.out).2.2 (fun _ _ hk => hk) (fun _ hk => hk.elim) (fun _ _ => trivial) HF.out.2 HF.out.2.size (by have := HHL.out; have := HTN.out; omega) ?_; intro u1 w5 hr1 hb1 hg1 hat1; rw [← HLG.out] at hr1; obtain ⟨A9, c9, rfl, h9⟩ := Kd.R_slice_len hr1; have hlen := HLEN.out; have hhl := HHL.out; have hsub : (lg.length : Int) - 3 = (hd.length : Int) := (by omega); have h3l : (3 : Int) ≤ (lg.length : Int) := (by omega); have hbd : (lg.length : Int) ≤ 140737488355328 := (by omega); have HLO := Aside0.mk (HT.out.own hb1); have HRW := Aside0.mk (Kd.R_mono (Kd.R_bound hr1) (ok' := fun k => (False ∨ w2.heap.size ≤ k) ∧ k < w5.heap.size) (fun k hk => ⟨.inr hk.2.1, hk.2.2.1⟩)); have H9 := Aside0.mk h9; (obtain ⟨i0_, hi0_, _, _, _⟩ := info_parts G.info5); have hcut := cut_to (P := Try.prog) 28 5 .i64 Try.underlying28 hi0_ A9 lg.length c9 (hd.length : Int) (by omega) (by omega) h9; rw [Int.toNat_natCast] at hcut; have HI := Aside0.mk hi0_; clear hr1 hb1 hg1 hat1 h9 hi0_ hlen hhl; (obtain ⟨x0, x1, x2, x3, x4, x5, x6, x7, x8⟩ := pv_cells HLO.out.bp); (obtain ⟨y0, y1, y2, y3, y4, y5⟩ := ov_cells HLO.out.bo); dsimp only at y0 y1 y2 y3 y4 y5; have hf0 := blk_frozen HLO.out.bp; have hf1 := blk_frozen HLO.out.bo) | fail)
  obtain ⟨y, hy⟩ : ∃ y : Nat → Prop, y = (fun k => (False ∨ w2.heap.size ≤ k) ∧ k < w5.heap.size) := ⟨_, rfl⟩
  rw [← hy] at HLO HRW
  clear hy HT hcut hsub h3l hbd
  have HLE := Aside0.mk (show hd.length ≤ lg.length by rw [HLEN.out]; omega)
  have HHC := Aside0.mk (show hd.length ≤ c9 by have := H9.out; have := HLE.out; omega)
  refine (show Calls Try.prog 50 _ _ (RPost _ z (m', er)) from HQ.out ▸ rappend_any HLO.out.rr HM.out fl (row_pre HRW.out HTK.out HLE.out) HHC.out (by have := HHL.out; omega)).mono ?_
  rintro e w6 ⟨s2, rfl, hr3, hb⟩
  have h3 := HLO.out.next hb
  clear x0 x1 x2 x3 x4 x5 x6 x7 x8 y0 y1 y2 y3 y4 y5 hf0 hf1
  obtain ⟨x0, x1, x2, x3, x4, x5, x6, x7, x8⟩ := pv_cells h3.bp
  obtain ⟨y0, y1, y2, y3, y4, y5⟩ := ov_cells h3.bo
  dsimp only at y0 y1 y2 y3 y4 y5
  have hf0 := blk_frozen h3.bp
  have hf1 := blk_frozen h3.bo
  have HD := Aside0.mk (HLO.out.doc hr3 hb)
  have HYL := Aside0.mk HLO.out.yl
  have HRW := Aside0.mk (row_below HRW.out hb)
  clear h3 hr3 hb
  go_upto_region 10 with fail
  refine gen_world (fun w4 => ∃ z s, PW W w4 B ok z0 z y g p s m' ⟨1, ot, fl, ma, mb, data⟩ A c ∧ Kd.R By 5 w4 w2.heap.size y (.slice A9 lg.length c9) lg) ⟨_, _, HD.out, row_upd HRW.out (put8_upd W.heap.size _ _ _ _ _ _ _ _) (fun k hk he => by have := (HYL.out k hk).2.1; omega)⟩ ?_
  clear x0 x1 x2 x3 x4 x5 x6 x7 x8 y0 y1 y2 y3 y4 y5 hf0 hf1
  clear HLO HD HRW HYL
  rintro w7 ⟨z, s, h4, hrw⟩
  have HT := Aside0.mk h4
  have HRW := Aside0.mk hrw
  clear h4 hrw
  obtain ⟨x0, x1, x2, x3, x4, x5, x6, x7, x8⟩ := pv_cells HT.out.bp
  obtain ⟨y0, y1, y2, y3, y4, y5⟩ := ov_cells HT.out.bo
  dsimp only at y0 y1 y2 y3 y4 y5
  have hf0 := blk_frozen HT.out.bp
  have hf1 := blk_frozen HT.out.bo
  go_wp2_with fail
  refine (HT.out.append_ HPK.out HBW.out (row_pre HRW.out HTK.out HLE.out) (by have := HHL.out; omega) HE.out).mono ?_
  rintro e w8 ⟨rfl, h5, hu⟩
  have HRW := Aside0.mk (row_upd HRW.out hu (fun k hk he => by have h1 := HT.out.yl k hk; rcases he with h_ | h_; (have := HT.out.ol k h_; omega); exact h_.2 (.inr hk)))
  have HT := Aside0.mk h5
  clear h5 hu x0 x1 x2 x3 x4 x5 x6 x7 x8 y0 y1 y2 y3 y4 y5 hf0 hf1
  obtain ⟨x0, x1, x2, x3, x4, x5, x6, x7, x8⟩ := pv_cells HT.out.bp
  obtain ⟨y0, y1, y2, y3, y4, y5⟩ := ov_cells HT.out.bo
  dsimp only at y0 y1 y2 y3 y4 y5
  have hf0 := blk_frozen HT.out.bp
  have hf1 := blk_frozen HT.out.bo
  obtain ⟨A8, hA8⟩ : ∃ A8, A8 = (if c9 = hd.length then A9 else A9.map (·.add (hd.length * 1))) := ⟨_, rfl⟩
  obtain ⟨i0_, hi0_, _, hsz, _⟩ := info_parts G.info5
  have hcut2 := cut_from (P := Try.prog) 28 5 .i64 Try.underlying28 hi0_ 1 hsz A9 lg.length c9 (hd.length : Int) (by omega) (by have := HLE.out; omega)
  rw [Int.toNat_natCast, ← hA8, show lg.length - hd.length = tl.length by rw [HLEN.out, HTN.out]; omega] at hcut2
  have HC8 := Aside0.mk (fun (w : World) (h : Kd.R By 5 w w2.heap.size y (.slice A9 lg.length c9) lg) => hA8 ▸ row_post h HDR.out HLE.out H9.out)
  clear hA8 hi0_ hsz
  have HDH := Aside0.mk (show hd = data by rw [HH.out]; unfold OM.hand; simp)
  go_wp2_with fail
  refine (eq_t HDH.out rfl rfl (row_pre HRW.out HTK.out HLE.out) HHC.out (HC.out _ HT.out.upd) HCC.out (by have := HHL.out; omega)).mono ?_
  rintro e w9 ⟨rfl, n9, rfl⟩
  have HT := Aside0.mk (HT.out.next (pw_below_drewN (Below.refl _ _) n9))
  have HRW := Aside0.mk (row_below HRW.out (pw_below_drewN (Below.refl _ _) n9))
  generalize w8.drewN n9 = w8 at HT HRW ⊢
  clear x0 x1 x2 x3 x4 x5 x6 x7 x8 y0 y1 y2 y3 y4 y5 hf0 hf1
  obtain ⟨x0, x1, x2, x3, x4, x5, x6, x7, x8⟩ := pv_cells HT.out.bp
  obtain ⟨y0, y1, y2, y3, y4, y5⟩ := ov_cells HT.out.bo
  dsimp only at y0 y1 y2 y3 y4 y5
  have hf0 := blk_frozen HT.out.bp
  have hf1 := blk_frozen HT.out.bo
  go_wp2_with fail
  refine (eq_t HTL.out rfl rfl (Kd.C_alloc (HC8.out _ HRW.out) _) (by have := HTN.out; have := H9.out; have := HLEN.out; omega) (lit_C w8 [201, 202, 203] (by decide)) (by decide) (by have := HTN.out; omega)).mono ?_
  rintro e w10 ⟨rfl, n10, rfl⟩
  have HT := Aside0.mk (HT.out.next (pw_below_drewN (bx w8 (Obj.cells #[Value.int IntKind.u8 201, Value.int IntKind.u8 202, Value.int IntKind.u8 203] 5)) n10))
  have HWB : Aside0 (Wb w2.heap.size _ (fun k => ¬ y k) (.slice A9 hd.length c9) hd.length) := ⟨((wb_row (row_below HRW.out (pw_below_drewN (bx w8 (Obj.cells #[Value.int IntKind.u8 201, Value.int IntKind.u8 202, Value.int IntKind.u8 203] 5)) n10))).shorter HLE.out).mono (fun k _ hk h_ => hk h_.1)⟩
  obtain ⟨pp, hpp⟩ : ∃ pp, pp = (p.append fl hd).1 := ⟨_, rfl⟩
  rw [← hpp] at HT
  have HPP := Aside0.mk hpp
  go_upto_region 13 with fail
  refine gen_world (fun w11 => PW W w11 B ok z0 z y g pp s m' ⟨1, ot, fl, ma, mb, data⟩ A c ∧ Wb w2.heap.size w11 (fun k => ¬ y k) (.slice A9 hd.length c9) hd.length) ⟨HT.out, HWB.out⟩ ?_
  clear hpp hcut2 HT HWB x0 x1 x2 x3 x4 x5 x6 x7 x8 y0 y1 y2 y3 y4 y5 hf0 hf1
  rintro w11 ⟨ht11, hwb11⟩
  have HT := Aside0.mk ht11
  have HWB := Aside0.mk hwb11
  clear ht11 hwb11
  go_wp2_with fail
  go_loopw [11] (fun i wr => ∃ j : Nat, j ≤ hd.length ∧ i = .int .i64 (j : Int) ∧ Aside0 (PW W wr B ok z0 z y g pp s m' ⟨1, ot, fl, ma, mb, data⟩ A c) ∧ Aside0 (Wb w2.heap.size wr (fun k => ¬ y k) (.slice A9 hd.length c9) hd.length)) (fun i _ => hd.length - (intOf i).toNat)
  case atStart => exact ⟨0, by omega, rfl, HT, HWB⟩
  case round =>
    obtain ⟨j, hj, rfl, HT, HWJ⟩ := hrel
    have hhl := HHL.out
    by_cases hjn : j < hd.length
    · by_cases h4 : j < 4096
      · obtain ⟨b, f, cells, u, rfl, ea, hob, hB, hblk, hcell, hfz⟩ := wb_at HWJ.out hjn
        have HO := Aside0.mk (show y b from Classical.not_not.1 hob)
        have HBk := Aside0.mk hblk
        clear hob hblk hB
        go_wp2_with fail
        go_roundw
        case rel => exact ⟨j + 1, by omega, by go_num, ⟨HT.out.put HO.out _⟩, ⟨HWJ.out.set HBk.out⟩⟩
        case measure => simp [intOf]; omega
      · have HT := HT
        obtain ⟨x0, x1, x2, x3, x4, x5, x6, x7, x8⟩ := pv_cells HT.out.bp
        obtain ⟨y0, y1, y2, y3, y4, y5⟩ := ov_cells HT.out.bo
        dsimp only at y0 y1 y2 y3 y4 y5
        have hf0 := blk_frozen HT.out.bp
        have hf1 := blk_frozen HT.out.bo
        obtain ⟨z0, z1, z2, z3, z4, z5, z6, z7, z8⟩ := z71_cells HT.out.bz
        have hfo := blk_frozen HT.out.bz
        go_wp2
        exact bodyPost_ret (ret71t Try.results40 _ _ (W.heap.size + 1 + 1) (PV g s m') rfl HT.out.done.1 rfl) rfl (by rw [← HPP.out]; exact ⟨s, z, rfl, HT.out.done.2⟩)
    · have HT := HT
      obtain ⟨x0, x1, x2, x3, x4, x5, x6, x7, x8⟩ := pv_cells HT.out.bp
      obtain ⟨y0, y1, y2, y3, y4, y5⟩ := ov_cells HT.out.bo
      dsimp only at y0 y1 y2 y3 y4 y5
      have hf0 := blk_frozen HT.out.bp
      have hf1 := blk_frozen HT.out.bo
      obtain ⟨z0, z1, z2, z3, z4, z5, z6, z7, z8⟩ := z71_cells HT.out.bz
      have hfo := blk_frozen HT.out.bz
      go_wp2
      exact bodyPost_ret (ret71t Try.results40 _ _ (W.heap.size + 1 + 1) (PV g s m') rfl HT.out.done.1 rfl) rfl (by rw [← HPP.out]; exact ⟨s, z, rfl, HT.out.done.2⟩)
set_option maxHeartbeats 4000000 in
theorem write_app2 {hd : List Int} (hr : Rep W B ok g p) (hB : B ≤ W.heap.size) (hm : RRep W z0 s m) (hz : ∀ k, z0 k → ¬ ok k ∧ k < W.heap.size) (ho : ∀ k, ok k → k < W.heap.size) (hR : Rel p m) (hM : m.ok) (hq : m.append fl hd = (m', er)) (hhd : hd = OM.hand ⟨2, ot, fl, ma, mb, data⟩) (hC : ∀ w', Upd W w' ok → Kd.C By w' A data.length data) (hcc : data.length ≤ c) (hl : data.length < 140737488355000) :
    Calls Try.prog 40 #[.agg (PV g s m), .agg (OV ⟨2, ot, fl, ma, mb, data⟩ A c)] W (DPost W B ok z0 g ((p.append fl hd).1) (m')) := by
  have HN := Aside0.mk (PW.new (mo := ⟨2, ot, fl, ma, mb, data⟩) (A := A) (c := c) hr hm hz ho)
  have HPK := Aside0.mk (hR.ok hM)
  have HBW := Aside0.mk hB
  have HM := Aside0.mk hM
  have HR := Aside0.mk hR
  have HE := Aside0.mk (show (p.append fl hd).2 = er by rw [(hR.append hM fl hd).2.1, hq])
  have HQ := Aside0.mk hq
  have HH := Aside0.mk hhd
  have HC := Aside0.mk hC
  have HCC := Aside0.mk hcc
  have HL := Aside0.mk hl
  have HHL := Aside0.mk (show hd.length ≤ 140737488355000 by rw [hhd]; unfold OM.hand; dsimp only; (first | (rw [if_neg (by omega)]; omega) | (rw [if_pos rfl]; split <;> simp <;> omega)))
  clear hhd hC hcc hl
  clear hr hB hm hz ho hR hM hq
  go_enter Try.func40, Try.ntmps40
  go_upto_region 1 with fail
  refine gen_world (fun w2 => ∃ z, PW W w2 B ok z0 z (fun _ => False) g p s m ⟨2, ot, fl, ma, mb, data⟩ A c) ⟨_, HN.out⟩ ?_
  rintro w2 ⟨z, h2⟩
  have HT := Aside0.mk h2
  clear h2 HN
  obtain ⟨x0, x1, x2, x3, x4, x5, x6, x7, x8⟩ := pv_cells HT.out.bp
  obtain ⟨y0, y1, y2, y3, y4, y5⟩ := ov_cells HT.out.bo
  dsimp only at y0 y1 y2 y3 y4 y5
  have hf0 := blk_frozen HT.out.bp
  have hf1 := blk_frozen HT.out.bo
  go_wp2_with fail
  refine (hand_calls (m := ⟨2, ot, fl, ma, mb, data⟩) (HC.out _ HT.out.upd) HCC.out (by have := HL.out; dsimp only; omega)).mono ?_
  rintro e w3 ⟨v, rfl, hf⟩
  rw [← HH.out] at hf
  obtain ⟨A5, c5, rfl, _⟩ := Kd.R_slice_len hf.1
  have HF := Aside0.mk hf
  clear hf
  obtain ⟨tl, htl⟩ : ∃ tl : List Int, tl = [201, 202, 203] := ⟨_, rfl⟩
  have htn : tl.length = 3 := by rw [htl]; rfl
  have HTN := Aside0.mk htn
  obtain ⟨lg, hlg⟩ : ∃ lg : List Int, lg = hd ++ tl := ⟨_, rfl⟩
  have hlen : lg.length = hd.length + 3 := by rw [hlg, List.length_append, htn]
  have HLEN := Aside0.mk hlen
  have HTK := Aside0.mk (show lg.take hd.length = hd by rw [hlg, List.take_left'] ; rfl)
  have HDR := Aside0.mk (show lg.drop hd.length = tl by rw [hlg, List.drop_left'] ; rfl)
  have HLG := Aside0.mk hlg
  have HTL := Aside0.mk htl
  clear hlen hlg htl htn
  go_wp2_with (first | ((with_reducible refine gate_dst (N := 19) rfl ?_); refine Kd.R_lit By _ 5 ?hg (N := 19) ?hd (xs := ([201, 202, 203] : List Int)) (inner := [.int .u8 201, .int .u8 202, .int .u8 203]) (ok := fun _ => True) (okp := fun _ => True) ?hr ?hp (fun _ hk => hk) trivial (Below.refl _ _) (Nat.le_refl _) (by simp) ?_; (case hd => rfl); (case hg => rfl); (case hr => first | (go_simp; done) | (go_simp; rfl)); (case hp => exact (Reps.one (show Kd.M By _ _ _ 201 [.int .u8 201] from rfl) (Reps.one (show Kd.M By _ _ _ 202 [.int .u8 202] from rfl) (Reps.one (show Kd.M By _ _ _ 203 [.int .u8 203] from rfl) (Reps.none _ _))))); intro v4 w4 ho6 hb4 hg_ hnew_; rw [← HTL.out] at ho6; obtain ⟨A6, c6, rfl, _⟩ := Kd.R_slice_len ho6; have HLI := Aside0.mk ho6; have HF := Aside0.mk (fresh_next HF.out hb4); clear ho6 hb4 hg_ hnew_) | ((refine gate_builtin (b := .append) (xs := #[.tmp 18, .tmp 19]) rfl ?_); at_builtin; refine Kd.R_append_rows By (w0 := w2) w2.heap.size rfl (.tmp 18) (.tmp 19) 28 5 (.int .u8 0) 1 rfl Try.underlying28 G.info5 rfl (by decide) (by decide) (.slice A5 hd.length c5) hd tl A6 tl.length c6 (fun _ => True) (fun _ => False) rfl rfl HF.out.1 (Kd.R_reads' HLI.out).2.2 (fun _ _ hk => hk) (fun _ hk => hk.elim) (fun _ _ => trivial) HF.out.2 HF.out.2.size (by have := HHL.out; have := HTN.out; omega) ?_; intro u1 w5 hr1 hb1 hg1 hat1; rw [← HLG.out] at hr1; obtain ⟨A9, c9, rfl, h9⟩ := Kd.R_slice_len hr1; have hlen := HLEN.out; have hhl := HHL.out; have hsub : (lg.length : Int) - 3 = (hd.length : Int) := (by omega); have h3l : (3 : Int) ≤ (lg.length : Int) := (by omega); have hbd : (lg.length : Int) ≤ 140737488355328 := (by omega); have HLO := Aside0.mk (HT.out.own hb1); have HRW := Aside0.mk (Kd.R_mono (Kd.R_bound hr1) (ok' := fun k => (False ∨ w2.heap.size ≤ k) ∧ k < w5.heap.size) (fun k hk => ⟨.inr hk.2.1, hk.2.2.1⟩)); have H9 := Aside0.mk h9; (obtain ⟨i0_, hi0_, _, _, _⟩ := info_parts G.info5); have hcut := cut_to (P := Try.prog) 28 5 .i64 Try.underlying28 hi0_ A9 lg.length c9 (hd.length : Int) (by omega) (by omega) h9; rw [Int.toNat_natCast] at hcut; have HI := Aside0.mk hi0_; clear hr1 hb1 hg1 hat1 h9 hi0_ hlen hhl; (obtain ⟨x0, x1, x2, x3, x4, x5, x6, x7, x8⟩ := pv_cells HLO.out.bp); (obtain ⟨y0, y1, y2, y3, y4, y5⟩ := ov_cells HLO.out.bo); dsimp only at y0 y1 y2 y3 y4 y5; have hf0 := blk_frozen HLO.out.bp; have hf1 := blk_frozen HLO.out.bo) | fail)
  obtain ⟨y, hy⟩ : ∃ y : Nat → Prop, y = (fun k => (False ∨ w2.heap.size ≤ k) ∧ k < w5.heap.size) := ⟨_, rfl⟩
  rw [← hy] at HLO HRW
  clear hy HT hcut hsub h3l hbd
  have HLE := Aside0.mk (show hd.length ≤ lg.length by rw [HLEN.out]; omega)
  have HHC := Aside0.mk (show hd.length ≤ c9 by have := H9.out; have := HLE.out; omega)
  refine (show Calls Try.prog 50 _ _ (RPost _ z (m', er)) from HQ.out ▸ rappend_any HLO.out.rr HM.out fl (row_pre HRW.out HTK.out HLE.out) HHC.out (by have := HHL.out; omega)).mono ?_
  rintro e w6 ⟨s2, rfl, hr3, hb⟩
  have h3 := HLO.out.next hb
  clear x0 x1 x2 x3 x4 x5 x6 x7 x8 y0 y1 y2 y3 y4 y5 hf0 hf1
  obtain ⟨x0, x1, x2, x3, x4, x5, x6, x7, x8⟩ := pv_cells h3.bp
  obtain ⟨y0, y1, y2, y3, y4, y5⟩ := ov_cells h3.bo
  dsimp only at y0 y1 y2 y3 y4 y5
  have hf0 := blk_frozen h3.bp
  have hf1 := blk_frozen h3.bo
  have HD := Aside0.mk (HLO.out.doc hr3 hb)
  have HYL := Aside0.mk HLO.out.yl
  have HRW := Aside0.mk (row_below HRW.out hb)
  clear h3 hr3 hb
  go_upto_region 10 with fail
  refine gen_world (fun w4 => ∃ z s, PW W w4 B ok z0 z y g p s m' ⟨2, ot, fl, ma, mb, data⟩ A c ∧ Kd.R By 5 w4 w2.heap.size y (.slice A9 lg.length c9) lg) ⟨_, _, HD.out, row_upd HRW.out (put8_upd W.heap.size _ _ _ _ _ _ _ _) (fun k hk he => by have := (HYL.out k hk).2.1; omega)⟩ ?_
  clear x0 x1 x2 x3 x4 x5 x6 x7 x8 y0 y1 y2 y3 y4 y5 hf0 hf1
  clear HLO HD HRW HYL
  rintro w7 ⟨z, s, h4, hrw⟩
  have HT := Aside0.mk h4
  have HRW := Aside0.mk hrw
  clear h4 hrw
  obtain ⟨x0, x1, x2, x3, x4, x5, x6, x7, x8⟩ := pv_cells HT.out.bp
  obtain ⟨y0, y1, y2, y3, y4, y5⟩ := ov_cells HT.out.bo
  dsimp only at y0 y1 y2 y3 y4 y5
  have hf0 := blk_frozen HT.out.bp
  have hf1 := blk_frozen HT.out.bo
  go_wp2_with fail
  refine (HT.out.append_ HPK.out HBW.out (row_pre HRW.out HTK.out HLE.out) (by have := HHL.out; omega) HE.out).mono ?_
  rintro e w8 ⟨rfl, h5, hu⟩
  have HRW := Aside0.mk (row_upd HRW.out hu (fun k hk he => by have h1 := HT.out.yl k hk; rcases he with h_ | h_; (have := HT.out.ol k h_; omega); exact h_.2 (.inr hk)))
  have HT := Aside0.mk h5
  clear h5 hu x0 x1 x2 x3 x4 x5 x6 x7 x8 y0 y1 y2 y3 y4 y5 hf0 hf1
  obtain ⟨x0, x1, x2, x3, x4, x5, x6, x7, x8⟩ := pv_cells HT.out.bp
  obtain ⟨y0, y1, y2, y3, y4, y5⟩ := ov_cells HT.out.bo
  dsimp only at y0 y1 y2 y3 y4 y5
  have hf0 := blk_frozen HT.out.bp
  have hf1 := blk_frozen HT.out.bo
  obtain ⟨A8, hA8⟩ : ∃ A8, A8 = (if c9 = hd.length then A9 else A9.map (·.add (hd.length * 1))) := ⟨_, rfl⟩
  obtain ⟨i0_, hi0_, _, hsz, _⟩ := info_parts G.info5
  have hcut2 := cut_from (P := Try.prog) 28 5 .i64 Try.underlying28 hi0_ 1 hsz A9 lg.length c9 (hd.length : Int) (by omega) (by have := HLE.out; omega)
  rw [Int.toNat_natCast, ← hA8, show lg.length - hd.length = tl.length by rw [HLEN.out, HTN.out]; omega] at hcut2
  have HC8 := Aside0.mk (fun (w : World) (h : Kd.R By 5 w w2.heap.size y (.slice A9 lg.length c9) lg) => hA8 ▸ row_post h HDR.out HLE.out H9.out)
  clear hA8 hi0_ hsz
  go_wp2_with fail
  refine (eq_t HTL.out rfl rfl (Kd.C_alloc (HC8.out _ HRW.out) _) (by have := HTN.out; have := H9.out; have := HLEN.out; omega) (lit_C w8 [201, 202, 203] (by decide)) (by decide) (by have := HTN.out; omega)).mono ?_
  rintro e w10 ⟨rfl, n10, rfl⟩
  have HT := Aside0.mk (HT.out.next (pw_below_drewN (bx w8 (Obj.cells #[Value.int IntKind.u8 201, Value.int IntKind.u8 202, Value.int IntKind.u8 203] 5)) n10))
  have HWB : Aside0 (Wb w2.heap.size _ (fun k => ¬ y k) (.slice A9 hd.length c9) hd.length) := ⟨((wb_row (row_below HRW.out (pw_below_drewN (bx w8 (Obj.cells #[Value.int IntKind.u8 201, Value.int IntKind.u8 202, Value.int IntKind.u8 203] 5)) n10))).shorter HLE.out).mono (fun k _ hk h_ => hk h_.1)⟩
  obtain ⟨pp, hpp⟩ : ∃ pp, pp = (p.append fl hd).1 := ⟨_, rfl⟩
  rw [← hpp] at HT
  have HPP := Aside0.mk hpp
  go_upto_region 13 with fail
  refine gen_world (fun w11 => PW W w11 B ok z0 z y g pp s m' ⟨2, ot, fl, ma, mb, data⟩ A c ∧ Wb w2.heap.size w11 (fun k => ¬ y k) (.slice A9 hd.length c9) hd.length) ⟨HT.out, HWB.out⟩ ?_
  clear hpp hcut2 HT HWB x0 x1 x2 x3 x4 x5 x6 x7 x8 y0 y1 y2 y3 y4 y5 hf0 hf1
  rintro w11 ⟨ht11, hwb11⟩
  have HT := Aside0.mk ht11
  have HWB := Aside0.mk hwb11
  clear ht11 hwb11
  go_wp2_with fail
  go_loopw [11] (fun i wr => ∃ j : Nat, j ≤ hd.length ∧ i = .int .i64 (j : Int) ∧ Aside0 (PW W wr B ok z0 z y g pp s m' ⟨2, ot, fl, ma, mb, data⟩ A c) ∧ Aside0 (Wb w2.heap.size wr (fun k => ¬ y k) (.slice A9 hd.length c9) hd.length)) (fun i _ => hd.length - (intOf i).toNat)
  case atStart => exact ⟨0, by omega, rfl, HT, HWB⟩
  case round =>
    obtain ⟨j, hj, rfl, HT, HWJ⟩ := hrel
    have hhl := HHL.out
    by_cases hjn : j < hd.length
    · by_cases h4 : j < 4096
      · obtain ⟨b, f, cells, u, rfl, ea, hob, hB, hblk, hcell, hfz⟩ := wb_at HWJ.out hjn
        have HO := Aside0.mk (show y b from Classical.not_not.1 hob)
        have HBk := Aside0.mk hblk
        clear hob hblk hB
        go_wp2_with fail
        go_roundw
        case rel => exact ⟨j + 1, by omega, by go_num, ⟨HT.out.put HO.out _⟩, ⟨HWJ.out.set HBk.out⟩⟩
        case measure => simp [intOf]; omega
      · have HT := HT
        obtain ⟨x0, x1, x2, x3, x4, x5, x6, x7, x8⟩ := pv_cells HT.out.bp
        obtain ⟨y0, y1, y2, y3, y4, y5⟩ := ov_cells HT.out.bo
        dsimp only at y0 y1 y2 y3 y4 y5
        have hf0 := blk_frozen HT.out.bp
        have hf1 := blk_frozen HT.out.bo
        obtain ⟨z0, z1, z2, z3, z4, z5, z6, z7, z8⟩ := z71_cells HT.out.bz
        have hfo := blk_frozen HT.out.bz
        go_wp2
        exact bodyPost_ret (ret71t Try.results40 _ _ (W.heap.size + 1 + 1) (PV g s m') rfl HT.out.done.1 rfl) rfl (by rw [← HPP.out]; exact ⟨s, z, rfl, HT.out.done.2⟩)
    · have HT := HT
      obtain ⟨x0, x1, x2, x3, x4, x5, x6, x7, x8⟩ := pv_cells HT.out.bp
      obtain ⟨y0, y1, y2, y3, y4, y5⟩ := ov_cells HT.out.bo
      dsimp only at y0 y1 y2 y3 y4 y5
      have hf0 := blk_frozen HT.out.bp
      have hf1 := blk_frozen HT.out.bo
      obtain ⟨z0, z1, z2, z3, z4, z5, z6, z7, z8⟩ := z71_cells HT.out.bz
      have hfo := blk_frozen HT.out.bz
      go_wp2
      exact bodyPost_ret (ret71t Try.results40 _ _ (W.heap.size + 1 + 1) (PV g s m') rfl HT.out.done.1 rfl) rfl (by rw [← HPP.out]; exact ⟨s, z, rfl, HT.out.done.2⟩)
end Go.Proofs.Yticokogggepfoaa.D
namespace Go.Proofs.Yticokogggepfoaa.D
open Go.RowKit Go.Proofs.YticokogggepfoaaW.PrintWords Go.Proofs.YticokogggepfoaaW.PrintLast Go.Proofs.YticokogggepfoaaW.PrintMore Go.Proofs.Yticokogggepfoaa.G
set_option linter.unusedVariables false
set_option linter.unusedSimpArgs false
set_option maxRecDepth 100000
/-- An operation done to the document's disk. -/
def OM.refd (o : OM) (m : RM) : RM × Int :=
  if o.kd = 1 ∨ o.kd = 2 then m.append o.fl o.hand else if o.kd = 3 then m.syncf o.fl else if o.kd = 4 then m.trunc o.fl o.a
  else if o.kd = 7 then m.arm o.a o.b else if o.kd = 8 then (m.disarm, 0) else if o.kd = 9 then m.restart else (m, 0)
variable {W : World} {B : Nat} {ok z : Nat → Prop} {g : Nat} {p : PM} {s : RS} {m : RM} {mo : OM} {A : Option Addr} {c : Nat}
theorem refd_same (hR : Rel p m) (hM : m.ok) (o : OM) : Same (o.done p) (o.refd m) := by
  unfold OM.done OM.refd
  split
  · exact hR.append hM _ _
  split
  · exact hR.syncf hM _
  split
  · exact hR.trunc hM _ _
  split
  · exact hR.arm hM _ _
  split
  · exact ⟨(hR.disarm hM).1, rfl, (hR.disarm hM).2⟩
  split
  · exact hR.restart hM
  · exact same_self hR hM 0
theorem lw_write (hr : Rep W B ok g p) (hB : B ≤ W.heap.size) (hm : RRep W z s m) (hz : ∀ k, z k → ¬ ok k ∧ k < W.heap.size) (ho : ∀ k, ok k → k < W.heap.size) (hR : Rel p m) (hM : m.ok)
    (hC : ∀ w', Upd W w' ok → Kd.C By w' A mo.data.length mo.data) (hcc : mo.data.length ≤ c) (hl : mo.data.length < 140737488355000) (hk : 1 ≤ mo.kd ∧ mo.kd ≤ 4) :
    Calls Try.prog 40 #[.agg (PV g s m), .agg (OV mo A c)] W (DPost W B ok z g (mo.done p).1 (mo.refd m).1) := by
  obtain ⟨kd, ot, fl, ma, mb, data⟩ := mo
  dsimp only at hC hcc hl hk
  rcases (show kd = 1 ∨ kd = 2 ∨ kd = 3 ∨ kd = 4 by omega) with rfl | rfl | rfl | rfl
  · exact write_app1 (m' := (m.append fl (OM.hand ⟨1, ot, fl, ma, mb, data⟩)).1) (er := (m.append fl (OM.hand ⟨1, ot, fl, ma, mb, data⟩)).2) hr hB hm hz ho hR hM rfl rfl hC hcc hl
  · exact write_app2 (m' := (m.append fl (OM.hand ⟨2, ot, fl, ma, mb, data⟩)).1) (er := (m.append fl (OM.hand ⟨2, ot, fl, ma, mb, data⟩)).2) hr hB hm hz ho hR hM rfl rfl hC hcc hl
  · exact write_sync (m' := (m.syncf fl).1) (er := (m.syncf fl).2) hr hB hm hz ho hR hM rfl
  · exact write_trunc (m' := (m.trunc fl ma).1) (er := (m.trunc fl ma).2) hr hB hm hz ho hR hM rfl
theorem lw_order (hr : Rep W B ok g p) (hB : B ≤ W.heap.size) (hm : RRep W z s m) (hz : ∀ k, z k → ¬ ok k ∧ k < W.heap.size) (ho : ∀ k, ok k → k < W.heap.size) (hR : Rel p m) (hM : m.ok) (hk : ¬ (1 ≤ mo.kd ∧ mo.kd ≤ 4)) :
    Calls Try.prog 41 #[.agg (PV g s m), .agg (OV mo A c)] W (DPost W B ok z g (mo.done p).1 (mo.refd m).1) := by
  obtain ⟨kd, ot, fl, ma, mb, data⟩ := mo
  dsimp only at hk
  by_cases h7 : kd = 7
  · subst h7; exact order_arm (m' := (m.arm ma mb).1) (er := (m.arm ma mb).2) hr hB hm hz ho hR hM rfl
  by_cases h8 : kd = 8
  · subst h8; exact order_disarm hr hB hm hz ho hR hM
  by_cases h9 : kd = 9
  · subst h9; exact order_restart (m' := m.restart.1) (er := m.restart.2) hr hB hm hz ho hR hM rfl
  have e1 : (OM.done ⟨kd, ot, fl, ma, mb, data⟩ p) = (p, 0) := by unfold OM.done; dsimp only; rw [if_neg (by omega), if_neg (by omega), if_neg (by omega), if_neg h7, if_neg h8, if_neg h9]
  have e2 : (OM.refd ⟨kd, ot, fl, ma, mb, data⟩ m) = (m, 0) := by unfold OM.refd; dsimp only; rw [if_neg (by omega), if_neg (by omega), if_neg (by omega), if_neg h7, if_neg h8, if_neg h9]
  rw [e1, e2]
  by_cases h10 : kd = 10
  · subst h10; exact order_down hr hB hm hz ho hR hM
  by_cases h11 : kd = 11
  · subst h11; exact order_writes hr hB hm hz ho hR hM
  · exact order_none hr hB hm hz ho hR hM (by omega)
end Go.Proofs.Yticokogggepfoaa.D
namespace Go.Proofs.Yticokogggepfoaa.D
open Go.RowKit Go.Proofs.YticokogggepfoaaW.PrintWords Go.Proofs.YticokogggepfoaaW.PrintLast Go.Proofs.YticokogggepfoaaW.PrintMore Go.Proofs.Yticokogggepfoaa.G
set_option linter.unusedVariables false
set_option linter.unusedSimpArgs false
/-- An answer that is kept: so many bytes of a mark, and 64 more behind them. -/
def heldAt (x : Nat × Int) : S90 := ⟨List.replicate x.1 x.2, List.replicate (x.1 + 64) x.2, x.2⟩
theorem rd_rep (n : Nat) (a : Int) (i : Nat) (h : i < n) : rd (List.replicate n a) (i : Int) = a := by unfold rd; simp [h]
theorem w64n {i n : Nat} (h : i < n) (hn : n ≤ 4611686018427387904) : wrap64 ((i : Int) + 1) = ((i + 1 : Nat) : Int) := by unfold wrap64; omega
theorem held_l2 (xs : List S90) (i : Int) (a : List Int) (n : Nat) (x : Int) (hn : n ≤ 4611686018427387904) (k : Nat) (hk : arrearslaw5_held.l0 k xs (wrap64 (i + 1)) = some true) :
    ∀ e j : Nat, j + e = n → arrearslaw5_held.l2 (e + 1 + k) xs i (j : Int) a (List.replicate n x) x = some true := by
  intro e
  induction e with
  | zero =>
    intro j hj
    rw [show 0 + 1 + k = k + 1 by omega, arrearslaw5_held.l2, if_neg (by simp; omega)]
    exact hk
  | succ e ih =>
    intro j hj
    rw [show e + 1 + 1 + k = (e + 1 + k) + 1 by omega, arrearslaw5_held.l2, if_pos (by simp; omega), if_pos (by omega), if_pos (rd_rep n x j (by omega)), w64n (show j < n by omega) hn]
    exact ih (j + 1) (by omega)
theorem held_l1 (xs : List S90) (i : Int) (m n : Nat) (x : Int) (hm : m ≤ 4611686018427387904) (hn : n ≤ 4611686018427387904) (k : Nat) (hk : arrearslaw5_held.l0 k xs (wrap64 (i + 1)) = some true) :
    ∀ e j : Nat, j + e = m → arrearslaw5_held.l1 (e + 1 + (n + 1 + k)) xs i (j : Int) (List.replicate m x) (List.replicate n x) x = some true := by
  intro e
  induction e with
  | zero =>
    intro j hj
    rw [show 0 + 1 + (n + 1 + k) = (n + 1 + k) + 1 by omega, arrearslaw5_held.l1, if_neg (by simp; omega)]
    exact held_l2 xs i _ n x hn k hk n 0 (by omega)
  | succ e ih =>
    intro j hj
    rw [show e + 1 + 1 + (n + 1 + k) = (e + 1 + (n + 1 + k)) + 1 by omega, arrearslaw5_held.l1, if_pos (by simp; omega), if_pos (by omega), if_pos (rd_rep m x j (by omega)), w64n (show j < m by omega) hm]
    exact ih (j + 1) (by omega)
theorem held_true (xs : List (Nat × Int)) (hl : xs.length ≤ 4611686018427387904) (hb : ∀ x ∈ xs, x.1 ≤ 4096) : ∃ k, arrearslaw5_held.f k (xs.map heldAt) = some true := by
  have main : ∀ d i : Nat, i + d = xs.length → ∃ k, arrearslaw5_held.l0 k (xs.map heldAt) (i : Int) = some true := by
    intro d
    induction d with
    | zero =>
      intro i hi
      exact ⟨1, by rw [arrearslaw5_held.l0, if_neg (by simp; omega)]⟩
    | succ d ih =>
      intro i hi
      obtain ⟨k, hk⟩ := ih (i + 1) (by omega)
      have hlt : i < xs.length := by omega
      have hx : rd_T90 (xs.map heldAt) (i : Int) = heldAt xs[i] := by unfold rd_T90; simp [hlt]
      have hbx := hb xs[i] (List.getElem_mem hlt)
      refine ⟨(xs[i].1 + 1 + (xs[i].1 + 64 + 1 + k)) + 1, ?_⟩
      rw [arrearslaw5_held.l0, if_pos (by simp; omega), if_pos (by omega), hx]
      exact held_l1 _ (i : Int) xs[i].1 (xs[i].1 + 64) xs[i].2 (by omega) (by omega) k (by rw [w64n hlt hl]; exact hk) xs[i].1 0 (by omega)
  obtain ⟨k, hk⟩ := main xs.length 0 (by omega)
  exact ⟨k, hk⟩
/-- The row of kept answers: its own array is the call's; what its answers hold lies in z. -/
structure HA (w : World) (base : Nat) (oA z : Nat → Prop) (v : Value) (xs : List (Nat × Int)) : Prop where
  len : xs.length ≤ 140737488355328
  bd : ∀ x ∈ xs, x.1 ≤ 4096
  row : ∃ rows : List (List Value), rows.length = xs.length ∧ Kd.R (Kd.raw 3) 90 w base oA v rows ∧
    ∀ (i : Nat) (x : Nat × Int), xs[i]? = some x → ∃ (A0 : Option Addr) (c0 : Nat) (A1 : Option Addr) (c1 : Nat), rows[i]? = some ([.slice A0 x.1 c0, .slice A1 (x.1 + 64) c1, .int .u8 x.2] : List Value) ∧ x.1 ≤ c0 ∧ x.1 + 64 ≤ c1 ∧ Kd.F By w z A0 x.1 (List.replicate x.1 x.2) ∧ Kd.F By w z A1 (x.1 + 64) (List.replicate (x.1 + 64) x.2)
section
variable {w w' : World} {base : Nat} {oA z S : Nat → Prop} {v : Value} {xs : List (Nat × Int)}
theorem HA.upd (h : HA w base oA z v xs) (hu : Upd w w' S) (h1 : ∀ k, oA k → ¬ S k) (h2 : ∀ k, z k → ¬ S k) : HA w' base oA z v xs := by
  obtain ⟨rows, e, hr, hx⟩ := h.row
  refine ⟨h.len, h.bd, rows, e, Kd.R_step hr (fun k hk hlt => hu.block k hlt (h1 k hk)), fun i x hi => ?_⟩
  obtain ⟨A0, c0, A1, c1, g1, g2, g3, g4, g5⟩ := hx i x hi
  exact ⟨A0, c0, A1, c1, g1, g2, g3, f_upd g4 hu (fun k hk _ => h2 k hk), f_upd g5 hu (fun k hk _ => h2 k hk)⟩
theorem HA.mono {oA' z' : Nat → Prop} (h : HA w base oA z v xs) (h1 : ∀ k, oA k → oA' k) (h2 : ∀ k, z k → z' k) : HA w base oA' z' v xs := by
  obtain ⟨rows, e, hr, hx⟩ := h.row
  refine ⟨h.len, h.bd, rows, e, Kd.R_mono hr h1, fun i x hi => ?_⟩
  obtain ⟨A0, c0, A1, c1, g1, g2, g3, g4, g5⟩ := hx i x hi
  exact ⟨A0, c0, A1, c1, g1, g2, g3, f_mono g4 h2, f_mono g5 h2⟩
theorem HA.nil (w : World) (base : Nat) (oA z : Nat → Prop) : HA w base oA z (.slice none 0 0) [] :=
  ⟨by simp, fun x hx => by simp at hx, [], rfl, Kd.R_nil _ _ _ _ _, fun i x hi => by simp at hi⟩
theorem HA.slice (h : HA w base oA z v xs) : ∃ A c, v = .slice A xs.length c ∧ xs.length ≤ c ∧ Kd.C k90 w A xs.length (xs.map heldAt) := by
  obtain ⟨rows, e, hr, hx⟩ := h.row
  obtain ⟨A, c, rfl, hc, hC⟩ := Kd.R_reads hr
  rw [e] at hc ⊢
  refine ⟨A, c, rfl, hc, by simp, by have := hC.2.1; rw [e] at this; exact this, fun hp => ?_⟩
  obtain ⟨ad, ha, hcell⟩ := hC.2.2 (by rw [e]; exact hp)
  refine ⟨ad, ha, fun j q hj => ?_⟩
  rw [List.getElem?_map] at hj
  obtain ⟨x, hxj, rfl⟩ := Option.map_eq_some_iff.1 hj
  obtain ⟨A0, c0, A1, c1, g1, g2, g3, g4, g5⟩ := hx j x hxj
  obtain ⟨cs, h1, ⟨rfl, _, _⟩, h3⟩ := hcell j _ g1
  refine ⟨_, h1, ?_, h3⟩
  have hk := k90_mk w (heldAt x) (A0 := A0) (c0 := c0) (A1 := A1) (c1 := c1) (by simpa [heldAt] using g2) (by simpa [heldAt] using f_now g4) (by simpa [heldAt] using g3) (by simpa [heldAt] using f_now g5)
  simpa [heldAt] using hk
theorem held_calls (h : HA w base oA z v xs) : Calls Try.prog 42 #[v] w fun e w' => e = .returned (.bool true) ∧ Below w.heap.size w w' := by
  obtain ⟨A, c, rfl, hc, hC⟩ := h.slice
  obtain ⟨k, hk⟩ := held_true xs (by have := h.len; omega) h.bd
  have hl : (xs.map heldAt).length = xs.length := by simp
  have := arrearslaw5_held.calls k A c (xs.map heldAt) true w (by rw [hl]; exact hC) (by rw [hl]; exact hc) hk
  rwa [hl] at this
end
end Go.Proofs.Yticokogggepfoaa.D
