/- The document's disk: a counted write, the fall. No condition but what it reads as. -/
import Derived.Test.YticokogggepfoaaRB
import Derived.Deep.DeepCutAuto
import Derived.Deep.CutBlock
namespace Go.Proofs.Yticokogggepfoaa.D
open Go.RowKit Go.Proofs.YticokogggepfoaaW.PrintWords Go.Proofs.YticokogggepfoaaW.PrintLast Go.Proofs.YticokogggepfoaaW.PrintMore Go.Proofs.Yticokogggepfoaa.G
attribute [local go_sem] max2_int min2_int max_two min_two max_three min_three max_four min_four
set_option linter.unusedVariables false
set_option linter.unusedSimpArgs false
set_option maxRecDepth 100000
theorem cr_at {W : World} {A : Option Addr} {n : Nat} {xs : List (Int × Int)} (h : Kd.C Cr W A n xs) (i : Nat) (hi : i < xs.length) : ∃ ad, A = some ad ∧ W.cell? (ad.add (i * 2)) = some (.int .i64 xs[i].1) ∧ W.cell? ⟨(ad.add (i * 2)).block, (ad.add (i * 2)).off + 1, none⟩ = some (.int .i64 xs[i].2) := by
  obtain ⟨ad, cs, rfl, _, hK, hc⟩ := Kd.C_get h (0, 0) (i : Int) (by omega) (by rw [← Kd.C_len h]; omega)
  rw [Int.toNat_natCast] at hK hc
  have e : xs.getD i (0, 0) = xs[i] := by rw [List.getD_eq_getElem?_getD, List.getElem?_eq_getElem hi]; rfl
  rw [e] at hK
  obtain ⟨c0, c1, rfl, k0, k1⟩ := hK
  obtain rfl : c0 = [.int .i64 xs[i].1] := k0
  obtain rfl : c1 = [.int .i64 xs[i].2] := k1
  have hc' : ∀ j u, ([.int .i64 xs[i].1, .int .i64 xs[i].2] : List Value)[j]? = some u → W.cell? (ad.add (i * 2 + j)) = some u := hc
  exact ⟨ad, rfl, hc' 0 _ rfl, by rw [← add_field _ _ 1 (by omega)]; exact hc' 1 _ rfl⟩
theorem cr_head {W : World} {A : Option Addr} {n : Nat} {a : Int × Int} {r : List (Int × Int)} (h : Kd.C Cr W A n (a :: r)) : ∃ ad, A = some ad ∧ W.cell? ad = some (.int .i64 a.1) ∧ W.cell? ⟨ad.block, ad.off + 1, none⟩ = some (.int .i64 a.2) := by
  obtain ⟨ad, e, h1, h2⟩ := cr_at h 0 (by simp)
  rw [Nat.zero_mul, show ad.add 0 = ad from rfl] at h1 h2
  exact ⟨ad, e, h1, h2⟩
def RM.counted (m : RM) : RM × Bool := match m.ar with
  | [] => ({ m with wr := wrap64 (m.wr + 1) }, false)
  | a :: _ => ({ m with wr := wrap64 (m.wr + 1), cnt := m.cnt + 1 }, decide (m.cnt + 1 = a.1))
def RV (s : RS) (m : RM) : Array Value := RC s m
theorem counted_calls (s : RS) (m : RM) (W : World) (ok : Nat → Prop) (h : RRep W ok s m) (hc0 : 0 ≤ m.cnt) (hc1 : m.cnt ≤ 1000000) :
    Calls Try.prog 62 #[.agg (RC s m)] W fun e W' => e = .returned (.tuple #[.agg (RC s m.counted.1), .bool m.counted.2]) ∧ Below W.heap.size W W' := by
  cases har : m.ar with
  | nil =>
    have e : m.counted = ({ m with wr := wrap64 (m.wr + 1) }, false) := by unfold RM.counted; rw [har]
    rw [e]
    unfold RC
    rw [har]
    clear h har e
    go_enter Try.func62, Try.ntmps62
    go_wp2
    exact bodyPost_ret (v := .tuple #[.agg #[.slice s.D0 m.d0.length s.D0c, .slice s.D1 m.d1.length s.D1c, .slice s.P0 m.p0.length s.P0c, .slice s.P1 m.p1.length s.P1c, .slice s.Ar 0 s.Arc, .int .i64 m.cnt, .bool m.dn, .int .i64 (wrap64 (m.wr + 1))], .bool false]) (by simp [results, Try.results62, go_sem]) rfl ⟨rfl, below_alloc (below_alloc (Below.refl _ _) _) _⟩
  | cons a r =>
    have e : m.counted = ({ m with wr := wrap64 (m.wr + 1), cnt := m.cnt + 1 }, decide (m.cnt + 1 = a.1)) := by unfold RM.counted; rw [har]
    rw [e]
    have hA := f_now h.ar
    rw [har] at hA
    obtain ⟨ad, hs, h1, h2⟩ := cr_head hA
    have hlt := World.block_lt_of_cell? W ad h1
    have hz : decide (((a :: r).length : Int) = 0) = false := by simp; omega
    have hlen : 0 < (a :: r).length := by simp
    unfold RC
    rw [har, hs]
    clear h har e hs h2 hA
    go_enter Try.func62, Try.ntmps62
    go_wp2
    go_region
    go_wp2

    refine bodyPost_ret (v := .tuple #[.agg #[.slice s.D0 m.d0.length s.D0c, .slice s.D1 m.d1.length s.D1c, .slice s.P0 m.p0.length s.P0c, .slice s.P1 m.p1.length s.P1c, .slice (some ad) (r.length + 1) s.Arc, .int .i64 (m.cnt + 1), .bool m.dn, .int .i64 (wrap64 (m.wr + 1))], .bool (m.cnt + 1 == a.1)]) (by simp [results, Try.results62, go_sem]) rfl ⟨?_, ?_⟩
    · rw [show (m.cnt + 1 == a.1) = decide (m.cnt + 1 = a.1) from rfl]
    · repeat (first | exact Below.refl _ _ | apply below_alloc | apply below_drew1 | apply below_drew)
theorem info98 : (Try.prog.info? 98).map (fun i => (i.zero, i.size, i.bytes)) = some (some (.agg #[.int .i64 0, .int .i64 0]), 2, 16) := by kernel_rfl
@[reducible] def zero68 : Array Value := #[.slice none 0 0, .slice none 0 0, .slice none 0 0, .slice none 0 0, .slice none 0 0, .int .i64 0, .bool false, .int .i64 0]
/-- A walk's two blocks: the struct that came in, and the one that goes out. -/
structure Two (W w : World) (s : RS) (m : RM) : Prop where
  box : w.heap[W.heap.size]? = some (.cells (RC s m) 68 (0, 0))
  out : w.heap[W.heap.size + 1]? = some (.cells zero68 68 (0, 0))
  below : Below W.heap.size W w
theorem Two.next {W w w' : World} {s : RS} {m : RM} (h : Two W w s m) (hb : Below w.heap.size w w') : Two W w' s m :=
  ⟨(hb.block _ (blk_lt h.box)).trans h.box, (hb.block _ (blk_lt h.out)).trans h.out, h.below.trans (hb.mono (Nat.le_of_lt (blk_lt h.box)))⟩
theorem Two.drew {W w : World} {s : RS} {m : RM} (h : Two W w s m) : Two W w.drew s m := h.next (below_drew1 (Below.refl _ _))
theorem Two.new (W : World) (s : RS) (m : RM) : Two W ((W.alloc (.cells (RC s m) 68)).alloc (.cells zero68 68)) s m :=
  ⟨(Below.heap_alloc _ _ _ (by simp)).trans (heap_alloc_new W _), by have := heap_alloc_new (W.alloc (.cells (RC s m) 68)) (.cells zero68 68); simpa using this, below_alloc (below_alloc (Below.refl _ _) _) _⟩
theorem Two.set {W w : World} {s s' : RS} {m m' : RM} (h : Two W w s m) (j : Nat) (u : Value) (he : (RC s m).setIfInBounds j u = RC s' m') : Two W (w.setCell ⟨W.heap.size, j, none⟩ u) s' m' :=
  ⟨by rw [← he]; exact blk_set h.box j u, blk_far h.out (by simp) u, h.below.setCell (Nat.le_refl _) u⟩
theorem out_cells {W w : World} {s : RS} {m : RM} (h : Two W w s m) : w.cell? ⟨W.heap.size + 1, 0, none⟩ = some (.slice none 0 0) ∧ w.cell? ⟨W.heap.size + 1, 1, none⟩ = some (.slice none 0 0) ∧ w.cell? ⟨W.heap.size + 1, 2, none⟩ = some (.slice none 0 0) ∧ w.cell? ⟨W.heap.size + 1, 3, none⟩ = some (.slice none 0 0) ∧ w.cell? ⟨W.heap.size + 1, 4, none⟩ = some (.slice none 0 0) ∧ w.cell? ⟨W.heap.size + 1, 5, none⟩ = some (.int .i64 0) ∧ w.cell? ⟨W.heap.size + 1, 6, none⟩ = some (.bool false) ∧ w.cell? ⟨W.heap.size + 1, 7, none⟩ = some (.int .i64 0) := by
  refine ⟨?_, ?_, ?_, ?_, ?_, ?_, ?_, ?_⟩ <;> exact (blk_cell h.out _).trans rfl
/-- Blocks that a struct's slices may lie in while the walk's own two blocks are written. -/
def okb (W : World) (ok : Nat → Prop) (k : Nat) : Prop := (ok k ∨ W.heap.size ≤ k) ∧ k ≠ W.heap.size ∧ k ≠ W.heap.size + 1
structure St (W w : World) (ok : Nat → Prop) (s : RS) (m : RM) : Prop where
  two : Two W w s m
  rep : RRep w (okb W ok) s m
theorem f_bound_ {α : Type} {d : Kd α} {W : World} {ok : Nat → Prop} {A : Option Addr} {n : Nat} {xs : List α} (h : Kd.F d W ok A n xs) : Kd.F d W (okb W ok) A n xs := Kd.F_mono (Kd.F_bound h) (fun k hk => ⟨.inl hk.1, by have := hk.2; omega, by have := hk.2; omega⟩)
theorem St.new {W : World} {ok : Nat → Prop} {s : RS} {m : RM} (h : RRep W ok s m) : St W ((W.alloc (.cells (RC s m) 68)).alloc (.cells zero68 68)) ok s m :=
  ⟨Two.new W s m, RRep.below ⟨f_bound_ h.d0, h.d0c, f_bound_ h.d1, h.d1c, f_bound_ h.p0, h.p0c, f_bound_ h.p1, h.p1c, f_bound_ h.ar, h.arc⟩ (below_alloc (below_alloc (Below.refl _ _) _) _)⟩
theorem St.next {W w w' : World} {ok : Nat → Prop} {s : RS} {m : RM} (h : St W w ok s m) (hb : Below w.heap.size w w') : St W w' ok s m := ⟨h.two.next hb, h.rep.below hb⟩
theorem St.drew {W w : World} {ok : Nat → Prop} {s : RS} {m : RM} (h : St W w ok s m) : St W w.drew ok s m := h.next (below_drew1 (Below.refl _ _))
theorem Two.upd {W w w' : World} {s : RS} {m : RM} {S : Nat → Prop} (h : Two W w s m) (hu : Upd w w' S) (hS : ∀ k, S k → W.heap.size + 1 < k) : Two W w' s m :=
  ⟨(hu.block _ (blk_lt h.box) (fun hk => by have := hS _ hk; omega)).trans h.box, (hu.block _ (blk_lt h.out) (fun hk => by have := hS _ hk; omega)).trans h.out, h.below.trans (hu.below (Below.refl _ _) (fun k hk => by have := hS _ hk; omega) (Nat.le_of_lt (blk_lt h.box)))⟩
theorem RRep.bound {w : World} {ok : Nat → Prop} {s : RS} {m : RM} (h : RRep w ok s m) : RRep w (fun k => ok k ∧ k < w.heap.size) s m :=
  ⟨Kd.F_bound h.d0, h.d0c, Kd.F_bound h.d1, h.d1c, Kd.F_bound h.p0, h.p0c, Kd.F_bound h.p1, h.p1c, Kd.F_bound h.ar, h.arc⟩
theorem okb_set {W w : World} (j : Nat) (u : Value) : Upd w (w.setCell ⟨W.heap.size, j, none⟩ u) (fun k => k = W.heap.size) := Upd.setCell (S := fun k => k = W.heap.size) (Upd.refl w _) (p := ⟨W.heap.size, j, none⟩) (fun _ => rfl) u
/-- A new row of bytes, for the struct's field. -/
theorem f_fresh {W w w' : World} {ok : Nat → Prop} {l : List Int} {A : Option Addr} {c : Nat} (hlt : W.heap.size + 1 < w.heap.size) (h : Kd.R By 5 w' w.heap.size (fun _ => True) (.slice A l.length c) l) : Kd.F By w' (okb W ok) A l.length l :=
  Kd.F_mono (f_of_R h) (fun k hk => ⟨.inr (by have := hk.2.1; omega), by have := hk.2.1; omega, by have := hk.2.1; omega⟩)
theorem St.setD0 {W w : World} {ok : Nat → Prop} {s : RS} {m : RM} (h : St W w ok s m) {A : Option Addr} {c : Nat} {l : List Int} (hl : l.length ≤ c) (hf : Kd.F By w (okb W ok) A l.length l) : St W (w.setCell ⟨W.heap.size, 0, none⟩ (.slice A l.length c)) ok { s with D0 := A, D0c := c } { m with d0 := l } :=
  ⟨h.two.set 0 _ rfl, have r := h.rep.upd (okb_set 0 (.slice A l.length c)) (fun k hk _ he => hk.2.1 he); ⟨f_upd hf (okb_set 0 _) (fun k hk _ he => hk.2.1 he), hl, r.d1, r.d1c, r.p0, r.p0c, r.p1, r.p1c, r.ar, r.arc⟩⟩
theorem St.setD1 {W w : World} {ok : Nat → Prop} {s : RS} {m : RM} (h : St W w ok s m) {A : Option Addr} {c : Nat} {l : List Int} (hl : l.length ≤ c) (hf : Kd.F By w (okb W ok) A l.length l) : St W (w.setCell ⟨W.heap.size, 1, none⟩ (.slice A l.length c)) ok { s with D1 := A, D1c := c } { m with d1 := l } :=
  ⟨h.two.set 1 _ rfl, have r := h.rep.upd (okb_set 1 (.slice A l.length c)) (fun k hk _ he => hk.2.1 he); ⟨r.d0, r.d0c, f_upd hf (okb_set 1 _) (fun k hk _ he => hk.2.1 he), hl, r.p0, r.p0c, r.p1, r.p1c, r.ar, r.arc⟩⟩
theorem St.setP0 {W w : World} {ok : Nat → Prop} {s : RS} {m : RM} (h : St W w ok s m) {A : Option Addr} {c : Nat} {l : List Int} (hl : l.length ≤ c) (hf : Kd.F By w (okb W ok) A l.length l) : St W (w.setCell ⟨W.heap.size, 2, none⟩ (.slice A l.length c)) ok { s with P0 := A, P0c := c } { m with p0 := l } :=
  ⟨h.two.set 2 _ rfl, have r := h.rep.upd (okb_set 2 (.slice A l.length c)) (fun k hk _ he => hk.2.1 he); ⟨r.d0, r.d0c, r.d1, r.d1c, f_upd hf (okb_set 2 _) (fun k hk _ he => hk.2.1 he), hl, r.p1, r.p1c, r.ar, r.arc⟩⟩
theorem St.setP1 {W w : World} {ok : Nat → Prop} {s : RS} {m : RM} (h : St W w ok s m) {A : Option Addr} {c : Nat} {l : List Int} (hl : l.length ≤ c) (hf : Kd.F By w (okb W ok) A l.length l) : St W (w.setCell ⟨W.heap.size, 3, none⟩ (.slice A l.length c)) ok { s with P1 := A, P1c := c } { m with p1 := l } :=
  ⟨h.two.set 3 _ rfl, have r := h.rep.upd (okb_set 3 (.slice A l.length c)) (fun k hk _ he => hk.2.1 he); ⟨r.d0, r.d0c, r.d1, r.d1c, r.p0, r.p0c, f_upd hf (okb_set 3 _) (fun k hk _ he => hk.2.1 he), hl, r.ar, r.arc⟩⟩
theorem St.setAr {W w : World} {ok : Nat → Prop} {s : RS} {m : RM} (h : St W w ok s m) {A : Option Addr} {c : Nat} {l : List (Int × Int)} (hl : l.length ≤ c) (hf : Kd.F Cr w (okb W ok) A l.length l) : St W (w.setCell ⟨W.heap.size, 4, none⟩ (.slice A l.length c)) ok { s with Ar := A, Arc := c } { m with ar := l } :=
  ⟨h.two.set 4 _ rfl, have r := h.rep.upd (okb_set 4 (.slice A l.length c)) (fun k hk _ he => hk.2.1 he); ⟨r.d0, r.d0c, r.d1, r.d1c, r.p0, r.p0c, r.p1, r.p1c, f_upd hf (okb_set 4 _) (fun k hk _ he => hk.2.1 he), hl⟩⟩
theorem St.setCnt {W w : World} {ok : Nat → Prop} {s : RS} {m : RM} (h : St W w ok s m) (x : Int) : St W (w.setCell ⟨W.heap.size, 5, none⟩ (.int .i64 x)) ok s { m with cnt := x } :=
  ⟨h.two.set 5 _ rfl, have r := h.rep.upd (okb_set 5 (.int .i64 x)) (fun k hk _ he => hk.2.1 he); ⟨r.d0, r.d0c, r.d1, r.d1c, r.p0, r.p0c, r.p1, r.p1c, r.ar, r.arc⟩⟩
theorem St.setDn {W w : World} {ok : Nat → Prop} {s : RS} {m : RM} (h : St W w ok s m) (x : Bool) : St W (w.setCell ⟨W.heap.size, 6, none⟩ (.bool x)) ok s { m with dn := x } :=
  ⟨h.two.set 6 _ rfl, have r := h.rep.upd (okb_set 6 (.bool x)) (fun k hk _ he => hk.2.1 he); ⟨r.d0, r.d0c, r.d1, r.d1c, r.p0, r.p0c, r.p1, r.p1c, r.ar, r.arc⟩⟩
theorem St.fin {W w w' : World} {ok : Nat → Prop} {s : RS} {m : RM} (h : St W w ok s m) (hu : Upd w w' (fun k => k = W.heap.size ∨ k = W.heap.size + 1)) : RRep w' (fun k => ok k ∨ W.heap.size ≤ k) s m :=
  (h.rep.upd hu (fun k hk _ he => he.elim hk.2.1 hk.2.2)).mono (fun k hk => hk.1)
theorem info68 : (Try.prog.info? 68).map (·.size) = some 8 := by kernel_rfl
theorem ret68 {fn : Func} {p : Tmp} (h : fn.results = #[.cell p 68]) (tmps : Array Value) (w : World) (g : Nat) (cs : Array Value) (hp : tmps.getD p undef = .pointer (some ⟨g, 0, none⟩)) (hg : w.heap[g]? = some (.cells cs 68 (0, 0))) (hs : cs.size = 8) :
    (results fn tmps).run Try.prog w = .ok (.agg cs) w := results_single (r := .cell p 68) h (.cell g 68 cs (0, 0) _ hp hg Try.underlying68 rfl (by rw [hs]; exact info68) .nil)
theorem ret68t {fn : Func} {p u : Tmp} (h : fn.results = #[.cell p 68, .tmp u]) (tmps : Array Value) (w : World) (g : Nat) (cs : Array Value) (hp : tmps.getD p undef = .pointer (some ⟨g, 0, none⟩)) (hg : w.heap[g]? = some (.cells cs 68 (0, 0))) (hs : cs.size = 8) :
    (results fn tmps).run Try.prog w = .ok (.tuple #[.agg cs, tmps.getD u undef]) w := results_ct h tmps w g 68 cs (0, 0) _ hp hg Try.underlying68 rfl (by rw [hs]; exact info68)
theorem out_copy {w : World} {g : Nat} (h : w.heap[g]? = some (.cells #[.slice none 0 0, .slice none 0 0, .slice none 0 0, .slice none 0 0, .slice none 0 0, .int .i64 0, .bool false, .int .i64 0] 68 (0, 0))) (v0 v1 v2 v3 v4 v5 v6 v7 : Value) :
    ((((((((w.setCell ⟨g, 0, none⟩ v0).setCell ⟨g, 1, none⟩ v1).setCell ⟨g, 2, none⟩ v2).setCell ⟨g, 3, none⟩ v3).setCell ⟨g, 4, none⟩ v4).setCell ⟨g, 5, none⟩ v5).setCell ⟨g, 6, none⟩ v6).setCell ⟨g, 7, none⟩ v7).heap[g]? = some (.cells #[v0, v1, v2, v3, v4, v5, v6, v7] 68 (0, 0)) := by
  have h1 := blk_put (cs' := #[v0, .slice none 0 0, .slice none 0 0, .slice none 0 0, .slice none 0 0, .int .i64 0, .bool false, .int .i64 0]) h 0 v0 rfl
  have h2 := blk_put (cs' := #[v0, v1, .slice none 0 0, .slice none 0 0, .slice none 0 0, .int .i64 0, .bool false, .int .i64 0]) h1 1 v1 rfl
  have h3 := blk_put (cs' := #[v0, v1, v2, .slice none 0 0, .slice none 0 0, .int .i64 0, .bool false, .int .i64 0]) h2 2 v2 rfl
  have h4 := blk_put (cs' := #[v0, v1, v2, v3, .slice none 0 0, .int .i64 0, .bool false, .int .i64 0]) h3 3 v3 rfl
  have h5 := blk_put (cs' := #[v0, v1, v2, v3, v4, .int .i64 0, .bool false, .int .i64 0]) h4 4 v4 rfl
  have h6 := blk_put (cs' := #[v0, v1, v2, v3, v4, v5, .bool false, .int .i64 0]) h5 5 v5 rfl
  have h7 := blk_put (cs' := #[v0, v1, v2, v3, v4, v5, v6, .int .i64 0]) h6 6 v6 rfl
  have h8 := blk_put (cs' := #[v0, v1, v2, v3, v4, v5, v6, v7]) h7 7 v7 rfl
  exact h8
theorem set_upd {W w : World} {S : Nat → Prop} (h : Upd W w S) {g : Nat} (hg : S g) (j : Nat) (u : Value) : Upd W (w.setCell ⟨g, j, none⟩ u) S := h.setCell (p := ⟨g, j, none⟩) (fun _ => hg) u
theorem out_upd {W w : World} {S : Nat → Prop} {g : Nat} (h : Upd W w S) (hg : S g) (v0 v1 v2 v3 v4 v5 v6 v7 : Value) :
    Upd W ((((((((w.setCell ⟨g, 0, none⟩ v0).setCell ⟨g, 1, none⟩ v1).setCell ⟨g, 2, none⟩ v2).setCell ⟨g, 3, none⟩ v3).setCell ⟨g, 4, none⟩ v4).setCell ⟨g, 5, none⟩ v5).setCell ⟨g, 6, none⟩ v6).setCell ⟨g, 7, none⟩ v7) S := set_upd (set_upd (set_upd (set_upd (set_upd (set_upd (set_upd (set_upd h hg 0 v0) hg 1 v1) hg 2 v2) hg 3 v3) hg 4 v4) hg 5 v5) hg 6 v6) hg 7 v7
def RM.fallen (m : RM) : RM := match m.ar with
  | [] => m
  | a :: r => { m with d0 := m.d0 ++ m.p0.take a.2.toNat, d1 := m.d1 ++ m.p1.take a.2.toNat, p0 := [], p1 := [], ar := r, cnt := 0, dn := true }
set_option maxHeartbeats 2000000 in
theorem rfallen_calls (s : RS) (m : RM) (W : World) (ok : Nat → Prop) (h : RRep W ok s m) {a : Int × Int} {r : List (Int × Int)} (har : m.ar = a :: r) (ha : 0 ≤ a.2) (hrl : r.length ≤ 1000) (hl0 : m.d0.length + m.p0.length ≤ 16777216) (hl1 : m.d1.length + m.p1.length ≤ 16777216) :
    Calls Try.prog 63 #[.agg (RC s m)] W fun e W' => ∃ s', e = .returned (.agg (RC s' m.fallen)) ∧ RRep W' (fun k => ok k ∨ W.heap.size ≤ k) s' m.fallen ∧ Below W.heap.size W W' := by
  obtain ⟨al, ak⟩ := a
  obtain ⟨K, rfl⟩ : ∃ K : Nat, ak = (K : Int) := Int.eq_ofNat_of_zero_le ha
  have hA := f_now h.ar
  rw [har] at hA
  obtain ⟨ad, hs, h1, h2⟩ := cr_head hA
  have hlt := World.block_lt_of_cell? W ad h1
  have hlen : 0 < m.ar.length := by rw [har]; simp
  have H := Aside0.mk h
  have HA := Aside0.mk har
  have HS := Aside0.mk hs
  have T0 := Aside0.mk (St.new h)
  have hu : RC s m = #[.slice s.D0 m.d0.length s.D0c, .slice s.D1 m.d1.length s.D1c, .slice s.P0 m.p0.length s.P0c, .slice s.P1 m.p1.length s.P1c, .slice (some ad) m.ar.length s.Arc, .int .i64 m.cnt, .bool m.dn, .int .i64 m.wr] := by rw [← hs]; try rfl
  have HU := Aside0.mk hu
  obtain ⟨t0, ht0⟩ : ∃ t : List Int, t = m.p0.take K := ⟨_, rfl⟩
  obtain ⟨t1, ht1⟩ : ∃ t : List Int, t = m.p1.take K := ⟨_, rfl⟩
  obtain ⟨j0, hj0⟩ : ∃ t : List Int, t = m.d0 ++ t0 := ⟨_, rfl⟩
  obtain ⟨j1, hj1⟩ : ∃ t : List Int, t = m.d1 ++ t1 := ⟨_, rfl⟩
  have hq0 : t0.length ≤ m.p0.length := by rw [ht0, List.length_take]; omega
  have hq1 : t1.length ≤ m.p1.length := by rw [ht1, List.length_take]; omega
  have HT0 := Aside0.mk ht0
  have HT1 := Aside0.mk ht1
  have HJ0 := Aside0.mk hj0
  have HJ1 := Aside0.mk hj1
  have HQ0 := Aside0.mk hq0
  have HQ1 := Aside0.mk hq1
  have HL0 := Aside0.mk hl0
  have HL1 := Aside0.mk hl1
  rw [hu]
  clear h har hs h1 ha hA hu ht0 ht1 hj0 hj1 hq0 hq1 hl0 hl1
  go_enter Try.func63, Try.ntmps63
  go_upto_region 2 with fail
  refine gen_world (fun w2 => St W w2 ok s m) (by have := T0.out; rw [HU.out] at this; exact this) ?_
  intro w2 hT2
  have HT2 := Aside0.mk hT2
  clear T0 hlt h2 hlen hT2
  obtain ⟨x0, x1, x2, x3, x4, x5, x6, x7⟩ := rc_cells HT2.out.two.box
  have hfz := blk_frozen HT2.out.two.box
  clear x1 x3 x4 x5 x6 x7
  go_cut [] (fun wx => ∃ (C : Option Addr) (e : Nat), Aside0 (St W wx ok { s with D0 := C, D0c := e } { m with d0 := j0 }))
  case first =>
    go_region_with (first
      | (go_at_call 46; (with_reducible refine (upTo_calls' K HT0.out (Kd.C_drew (f_now HT2.out.rep.p0)) HT2.out.rep.p0c (by have := HL0.out; omega)).mono ?_); rintro e w3 ⟨v, rfl, hf⟩; obtain ⟨B1, b1, rfl, hb1⟩ := Kd.R_slice_len hf.1; have ht3 := HT2.out.drew.next hf.2; obtain ⟨y0, y1, y2, y3, y4, y5, y6, y7⟩ := rc_cells ht3.two.box; have hfz3 := blk_frozen ht3.two.box; have HT3 := Aside0.mk ht3; have HF3 := Aside0.mk hf; have HB3 := Aside0.mk hb1; clear ht3 hf hb1 y1 y3 y4 y5 y6 y7)
      | (go_at_call 58; (with_reducible refine (joined_calls' HJ0.out (f_now HT3.out.rep.d0) HT3.out.rep.d0c HF3.out.reads HB3.out (by have := HL0.out; have := HQ0.out; omega)).mono ?_); rintro e w4 ⟨v, rfl, hf⟩; obtain ⟨B2, b2, rfl, hb2⟩ := Kd.R_slice_len hf.1; have ht4 := HT3.out.next hf.2; obtain ⟨z0, z1, z2, z3, z4, z5, z6, z7⟩ := rc_cells ht4.two.box; have hfz4 := blk_frozen ht4.two.box; have HT4 := Aside0.mk ht4; have HF4 := Aside0.mk hf; have HB4 := Aside0.mk hb2; clear ht4 hf hb2 z1 z2 z3 z4 z5 z6 z7))
    all_goals
      go_wp2_with fail
      go_meet
      exact ⟨B2, b2, ⟨HT4.out.setD0 HB4.out (f_fresh (blk_lt HT3.out.two.out) HF4.out.1)⟩⟩
  case rest =>
    obtain ⟨C0, e0, HT2⟩ := hcut
    obtain ⟨x0, x1, x2, x3, x4, x5, x6, x7⟩ := rc_cells HT2.out.two.box
    have hfz := blk_frozen HT2.out.two.box
    clear x0 x2 x4 x5 x6 x7
    go_upto_region 3 with fail
    go_cut [] (fun wx => ∃ (C : Option Addr) (e : Nat), Aside0 (St W wx ok { s with D0 := C0, D0c := e0, D1 := C, D1c := e } { m with d0 := j0, d1 := j1 }))
    case first =>
      go_region_with (first
        | (go_at_call 46; (with_reducible refine (upTo_calls' K HT1.out (Kd.C_drew (f_now HT2.out.rep.p1)) HT2.out.rep.p1c (by have := HL1.out; omega)).mono ?_); rintro e w3 ⟨v, rfl, hf⟩; obtain ⟨B1, b1, rfl, hb1⟩ := Kd.R_slice_len hf.1; have ht3 := HT2.out.drew.next hf.2; obtain ⟨y0, y1, y2, y3, y4, y5, y6, y7⟩ := rc_cells ht3.two.box; have hfz3 := blk_frozen ht3.two.box; have HT3 := Aside0.mk ht3; have HF3 := Aside0.mk hf; have HB3 := Aside0.mk hb1; clear ht3 hf hb1 y0 y2 y4 y5 y6 y7)
        | (go_at_call 58; (with_reducible refine (joined_calls' HJ1.out (f_now HT3.out.rep.d1) HT3.out.rep.d1c HF3.out.reads HB3.out (by have := HL1.out; have := HQ1.out; omega)).mono ?_); rintro e w4 ⟨v, rfl, hf⟩; obtain ⟨B2, b2, rfl, hb2⟩ := Kd.R_slice_len hf.1; have ht4 := HT3.out.next hf.2; obtain ⟨z0, z1, z2, z3, z4, z5, z6, z7⟩ := rc_cells ht4.two.box; have hfz4 := blk_frozen ht4.two.box; have HT4 := Aside0.mk ht4; have HF4 := Aside0.mk hf; have HB4 := Aside0.mk hb2; clear ht4 hf hb2 z0 z2 z3 z4 z5 z6 z7))
      all_goals
        go_wp2_with fail
        go_meet
        exact ⟨B2, b2, ⟨HT4.out.setD1 HB4.out (f_fresh (blk_lt HT3.out.two.out) HF4.out.1)⟩⟩
    case rest =>
      obtain ⟨C1, e1, HT2⟩ := hcut
      obtain ⟨x0, x1, x2, x3, x4, x5, x6, x7⟩ := rc_cells HT2.out.two.box
      have hfz := blk_frozen HT2.out.two.box
      clear x0 x1 x4 x5 x6 x7
      go_wp2
      refine gen_world (fun w5 => St W w5 ok { s with D0 := C0, D0c := e0, D1 := C1, D1c := e1, P0 := none, P0c := 0, P1 := none, P1c := 0 } { m with d0 := j0, d1 := j1, p0 := [], p1 := [] }) ((HT2.out.setP0 (l := []) (A := none) (c := 0) (Nat.le_refl _) (f_nil _ _)).setP1 (l := []) (A := none) (c := 0) (Nat.le_refl _) (f_nil _ _)) ?_
      intro w5 h5
      obtain ⟨s3, hs3⟩ : ∃ s3 : RS, s3 = { s with D0 := C0, D0c := e0, D1 := C1, D1c := e1, P0 := none, P0c := 0, P1 := none, P1c := 0 } := ⟨_, rfl⟩
      obtain ⟨m3, hm3⟩ : ∃ m3 : RM, m3 = { m with d0 := j0, d1 := j1, p0 := [], p1 := [] } := ⟨_, rfl⟩
      rw [← hs3, ← hm3] at h5
      have HS3 := Aside0.mk (show s3.Ar = some ad by rw [hs3]; exact HS.out)
      have HM3 := Aside0.mk (show m3.ar = (al, (K : Int)) :: r by rw [hm3]; exact HA.out)
      have HSE := Aside0.mk hs3
      have HME := Aside0.mk hm3
      have H5 := Aside0.mk h5
      obtain ⟨N0, hN0⟩ : ∃ N0, N0 = w5.heap.size := ⟨_, rfl⟩
      have HN := Aside0.mk (show W.heap.size + 1 < N0 from hN0 ▸ blk_lt h5.two.out)
      have hr5 := h5.rep.bound
      rw [← hN0] at hr5
      have HR5 := Aside0.mk hr5
      have HN5 := Aside0.mk hN0
      clear x2 x3 hfz h5 hs3 hm3 hN0 hr5
      go_loopw [4, 5] (fun v i wr => ∃ k : Nat, k ≤ r.length ∧ i = .int .i64 ((k + 1 : Nat) : Int) ∧ Aside0 (Kd.R Cr 98 wr N0 (fun _ => True) v (r.take k)) ∧ Aside0 (Two W wr s3 m3) ∧ Aside0 (RRep wr (fun k => okb W ok k ∧ k < N0) s3 m3) ∧ Aside0 (N0 ≤ wr.heap.size)) (fun _ i _ => r.length + 1 - (intOf i).toNat)
      case atStart =>
        exact ⟨0, by omega, rfl, ⟨Kd.R_nil _ _ _ _ _⟩, ⟨H5.out.two⟩, HR5, ⟨Nat.le_of_eq HN5.out⟩⟩
      case round =>
        obtain ⟨k, hk, rfl, HO, HT, HRR, HNR⟩ := hrel
        obtain ⟨x0, x1, x2, x3, x4, x5, x6, x7⟩ := rc_cells HT.out.box
        have hfz := blk_frozen HT.out.box
        have hC := f_now HRR.out.ar
        rw [HS3.out, HM3.out] at x4 hC
        obtain ⟨Av, nv, rfl, hnv⟩ := Kd.R_slice_len HO.out
        have hlk : (r.take k).length = k := by rw [List.length_take]; omega
        have HLK := Aside0.mk hlk
        by_cases hkr : k < r.length
        · obtain ⟨ad', he, g1, g2⟩ := cr_at hC (k + 1) (by simp; omega)
          obtain rfl : ad = ad' := Option.some.inj he
          simp only [List.getElem_cons_succ] at g1 g2
          have hr0 := HO.out
          have hu0 := Kd.R_base hr0
          have HU0 := Aside0.mk hu0
          have HL := Aside0.mk (show (k + 1) * 16 ≤ 140737488355328 by omega)
          have HTS := Aside0.mk (List.take_succ_eq_append_getElem hkr)
          clear hlk hr0 hu0 x0 x1 x2 x3 x5 x6 x7 hC he
          go_wp2_with ((refine gate_builtin (b := .append) (xs := #[.tmp 36, .tmp 42]) rfl ?_); at_builtin; refine Kd.R_append Cr (w0 := wr) N0 rfl (.tmp 36) (.tmp 42) 66 98 (.agg #[.int .i64 0, .int .i64 0]) 16 rfl Try.underlying66 info98 rfl (by decide) (by decide) (.slice Av (r.take k).length nv) (r.take k) (r[k].1, r[k].2) [.int .i64 r[k].1, .int .i64 r[k].2] (fun _ => True) (fun _ => False) rfl rfl (cr_M _ _ _ _ _) (fun _ hk => hk.elim) (fun _ _ => trivial) HO.out (Below.refl _ _) HNR.out (by rw [HLK.out]; exact HL.out) ?_; intro u1 w1 hr1 hb1 hg1 hat1; obtain ⟨A2, n2, rfl, hn2⟩ := Kd.R_slice_len hr1; rw [show r.take k ++ [(r[k].1, r[k].2)] = r.take (k + 1) from HTS.out.symm] at hr1; have hup : Upd wr w1 (fun k => N0 ≤ k) := (Upd.refl _ _).grown hg1 (fun j hj _ => HU0.out j hj); have HR1 := Aside0.mk hr1; have HUP := Aside0.mk hup; clear hr1 hb1 hg1 hat1 hn2 hup)
          go_roundw
          case rel =>
            refine ⟨k + 1, by omega, by first | rfl | go_num, ⟨by have h_ := HR1.out; rw [show (r.take (k + 1)).length = k + 1 by rw [List.length_take]; omega] at h_; exact h_⟩, ⟨HT.out.upd HUP.out (fun j hj => by have := HN.out; omega)⟩, ⟨HRR.out.upd HUP.out (fun j hj _ h2 => by have := hj.2; omega)⟩, ⟨Nat.le_trans HNR.out HUP.out.size⟩⟩
          case measure => simp [intOf]; omega
        · obtain rfl : k = r.length := by omega
          have hAr : Kd.F Cr wr (okb W ok) Av r.length r := by
            have h_ := HO.out
            rw [List.take_length] at h_
            exact Kd.F_mono (f_of_R h_) (fun j hj => ⟨.inr (by have := hj.2.1; have := HN.out; omega), by have := hj.2.1; have := HN.out; omega, by have := hj.2.1; have := HN.out; omega⟩)
          rw [List.take_length] at hnv
          have HAR := Aside0.mk hAr
          have HNV := Aside0.mk hnv
          obtain ⟨z0, z1, z2, z3, z4, z5, z6, z7⟩ := out_cells HT.out
          have hfo := blk_frozen HT.out.out
          clear hC hlk hAr hnv
          go_wp2
          have hm : m.fallen = { m3 with ar := r, cnt := 0, dn := true } := by unfold RM.fallen; rw [HA.out, HME.out, HJ0.out, HJ1.out, HT0.out, HT1.out]; simp only [Int.toNat_natCast]
          refine bodyPost_ret (v := .agg (RC { s3 with Ar := Av, Arc := nv } { m3 with ar := r, cnt := 0, dn := true })) (ret68 Try.results63 _ _ (W.heap.size + 1) _ rfl ?hz rfl) rfl ⟨{ s3 with Ar := Av, Arc := nv }, by rw [hm], ?_, ?_⟩
          case hz => exact out_copy (blk_far (blk_far (blk_far HT.out.out (by simp) _) (by simp) _) (by simp) _) _ _ _ _ _ _ _ _
          · rw [hm]
            have r_ := HRR.out.mono (ok' := okb W ok) (fun j hj => hj.1)
            have r2_ : RRep wr (okb W ok) { s3 with Ar := Av, Arc := nv } { m3 with ar := r, cnt := 0, dn := true } := ⟨r_.d0, r_.d0c, r_.d1, r_.d1c, r_.p0, r_.p0c, r_.p1, r_.p1c, HAR.out, HNV.out⟩
            refine (r2_.upd (S := fun k => k = W.heap.size ∨ k = W.heap.size + 1) ?_ (fun k hk _ he => he.elim hk.2.1 hk.2.2)).mono (fun k hk => hk.1)
            exact out_upd (set_upd (set_upd (set_upd (Upd.refl _ _) (.inl rfl) 4 _) (.inl rfl) 5 _) (.inl rfl) 6 _) (.inr rfl) _ _ _ _ _ _ _ _
          · refine Upd.below (S := fun k => k = W.heap.size ∨ k = W.heap.size + 1) ?_ HT.out.below (fun k hk => by omega) HT.out.below.size
            exact out_upd (set_upd (set_upd (set_upd (Upd.refl _ _) (.inl rfl) 4 _) (.inl rfl) 5 _) (.inl rfl) 6 _) (.inr rfl) _ _ _ _ _ _ _ _
end Go.Proofs.Yticokogggepfoaa.D
