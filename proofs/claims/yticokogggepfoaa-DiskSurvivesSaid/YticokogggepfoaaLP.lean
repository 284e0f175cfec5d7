/- What is seen of a disk, as values; begins; the boxes of a call that looks at it. No condition. -/
import Derived.Test.YticokogggepfoaaLM
import Derived.Test.YticokogggepfoaaLO
import Derived.Deep.QuietTactic
import Derived.BigQuiet
import Derived.Deep.CutRange
namespace Go.Proofs.Yticokogggepfoaa.D
open Go.RowKit Go.Proofs.YticokogggepfoaaW.PrintWords Go.Proofs.YticokogggepfoaaW.PrintLast Go.Proofs.YticokogggepfoaaW.PrintMore Go.Proofs.Yticokogggepfoaa.G
attribute [local go_sem] max2_int min2_int max_two min_two max_three min_three max_four min_four
set_option linter.unusedVariables false
set_option linter.unusedSimpArgs false
set_option maxRecDepth 100000
/-- Where the four rows lie. -/
structure SL where
  A0 : Option Addr
  c0 : Nat
  A1 : Option Addr
  c1 : Nat
  A2 : Option Addr
  c2 : Nat
  A3 : Option Addr
  c3 : Nat
@[reducible] def SDV (s : SD) (a : SL) : Array Value := #[.slice a.A0 s.r0.length a.c0, .slice a.A1 s.r1.length a.c1, .slice a.A2 s.d0.length a.c2, .slice a.A3 s.d1.length a.c3, .bool s.dn]
structure Rd (w : World) (A : Option Addr) (c : Nat) (l : List Int) : Prop where
  C : Kd.C By w A l.length l
  cap : l.length ≤ c
  len : l.length ≤ 16777216
structure SC (w : World) (s : SD) (a : SL) : Prop where
  r0 : Rd w a.A0 a.c0 s.r0
  r1 : Rd w a.A1 a.c1 s.r1
  d0 : Rd w a.A2 a.c2 s.d0
  d1 : Rd w a.A3 a.c3 s.d1
section
variable {W w w' : World} {A B : Option Addr} {c b : Nat} {l r : List Int}
theorem Rd.next (h : Rd w A c l) (hb : Below w.heap.size w w') : Rd w' A c l := ⟨Kd.C_below h.C hb, h.cap, h.len⟩
theorem SC.next {s : SD} {a : SL} (h : SC w s a) (hb : Below w.heap.size w w') : SC w' s a := ⟨h.r0.next hb, h.r1.next hb, h.d0.next hb, h.d1.next hb⟩
/-- equal of two that are. -/
theorem equal_q {n : Nat} (e : l = r) (hn : n = l.length) (h : Kd.C By w A l.length l) (hc : l.length ≤ c) (h2 : Kd.C By w B r.length r) (hb : r.length ≤ b) (hl : l.length ≤ 4611686018427387904) :
    Calls Try.prog 20 #[.slice A n c, .slice B r.length b] w fun e w' => e = .returned (.bool true) ∧ ∃ m, w' = w.drewN m := by
  subst hn
  refine (arrearslaw5_equal.calls _ A c l B b r _ w h hc h2 hb (equal_f l r hl)).mono fun e' w' ⟨he, hd⟩ => ⟨?_, hd.out⟩
  rw [he, decide_eq_true e]
theorem equal_n {n1 n2 : Nat} (e : l = r) (h1 : n1 = l.length) (h2 : n2 = r.length) (h : Kd.C By w A l.length l) (hc : l.length ≤ c) (h3 : Kd.C By w B r.length r) (hb : r.length ≤ b) (hl : l.length ≤ 16777216) :
    Calls Try.prog 20 #[.slice A n1 c, .slice B n2 b] w fun e w' => e = .returned (.bool true) ∧ ∃ m, w' = w.drewN m := by
  subst h2
  exact equal_q e h1 h hc h3 hb (by omega)
set_option maxHeartbeats 1000000 in
theorem begins_q (h : Kd.C By w A l.length l) (hc : l.length ≤ c) (h2 : Kd.C By w B r.length r) (hb : r.length ≤ b) (hp : l <+: r) (hl : r.length ≤ 4611686018427387904) :
    Calls Try.prog 45 #[.slice A l.length c, .slice B r.length b] w fun e w' => e = .returned (.bool true) ∧ ∃ m, w' = w.drewN m := by
  have hlen := hp.length_le
  have ht : r.take l.length = l := (List.prefix_iff_eq_take.1 hp).symm
  have h3 : Kd.C By w B l.length l := by
    have h_ := Kd.C_take (m := l.length) h2 hlen
    rwa [ht] at h_
  obtain ⟨i0_, hi0_, _, _, _⟩ := info_parts G.info5
  have hcut := cut_to (P := Try.prog) 28 5 .i64 Try.underlying28 hi0_ B r.length b (l.length : Int) (by omega) (by omega) hb
  rw [Int.toNat_natCast] at hcut
  have d1 : decide ((l.length : Int) ≤ (r.length : Int)) = true := decide_eq_true (by omega)
  have d2 : decide (l.length ≤ r.length) = true := decide_eq_true (by omega)
  have H := Aside0.mk h
  have H3 := Aside0.mk h3
  have HL := Aside0.mk (show l.length ≤ b by omega)
  have HT := Aside0.mk (show l.length ≤ 4611686018427387904 by omega)
  clear h h2 h3 hi0_ hp ht hl
  go_enter Try.func45, Try.ntmps45
  go_wp2_with fail
  refine (equal_q rfl rfl H.out hc H3.out HL.out HT.out).mono ?_
  rintro e w2 ⟨rfl, hd⟩
  have HD := Aside0.mk hd
  clear hd
  go_wp2_with fail
  go_ret
  exact ⟨rfl, HD.out⟩
end
/-- The boxes of fell and wrote: an operation, what was seen, what is seen. -/
structure Bx (W w : World) (m : OM) (A : Option Addr) (c : Nat) (s t : SD) (a b : SL) : Prop where
  op : w.heap[W.heap.size]? = some (.cells (OV m A c) 45 (0, 0))
  was : w.heap[W.heap.size + 1]? = some (.cells (SDV s a) 41 (0, 0))
  is : w.heap[W.heap.size + 1 + 1]? = some (.cells (SDV t b) 41 (0, 0))
  below : Below W.heap.size W w
section
variable {W w w' : World} {m : OM} {A : Option Addr} {c : Nat} {s t : SD} {a b : SL}
theorem Bx.next (h : Bx W w m A c s t a b) (hb : Below w.heap.size w w') : Bx W w' m A c s t a b := ⟨blk_below h.op hb, blk_below h.was hb, blk_below h.is hb, h.below.trans (hb.mono h.below.size)⟩
theorem Bx.new : Bx W (((W.alloc (.cells (OV m A c) 45)).alloc (.cells (SDV s a) 41)).alloc (.cells (SDV t b) 41)) m A c s t a b := by
  have h1 := heap_alloc_new W (.cells (OV m A c) 45)
  have h2 := heap_alloc_new (W.alloc (.cells (OV m A c) 45)) (.cells (SDV s a) 41)
  have h3 := heap_alloc_new ((W.alloc (.cells (OV m A c) 45)).alloc (.cells (SDV s a) 41)) (.cells (SDV t b) 41)
  rw [show (W.alloc (.cells (OV m A c) 45)).heap.size = W.heap.size + 1 by simp] at h2
  rw [show ((W.alloc (.cells (OV m A c) 45)).alloc (.cells (SDV s a) 41)).heap.size = W.heap.size + 1 + 1 by simp] at h3
  exact ⟨blk_below (blk_below h1 (bx _ _)) (bx _ _), blk_below h2 (bx _ _), h3, below_alloc (below_alloc (below_alloc (Below.refl _ _) _) _) _⟩
theorem Bx.ops (h : Bx W w m A c s t a b) : w.cell? ⟨W.heap.size, 0, none⟩ = some (.int .i64 m.kd) ∧ w.cell? ⟨W.heap.size, 1, none⟩ = some (.bool m.ot) ∧ w.cell? ⟨W.heap.size, 2, none⟩ = some (.int .i64 m.fl) ∧ w.cell? ⟨W.heap.size, 3, none⟩ = some (.int .i64 m.a) ∧ w.cell? ⟨W.heap.size, 4, none⟩ = some (.int .i64 m.b) ∧ w.cell? ⟨W.heap.size, 5, none⟩ = some (.slice A m.data.length c) := ov_cells h.op
theorem sd_cells {g : Nat} (h : w.heap[g]? = some (.cells (SDV s a) 41 (0, 0))) : w.cell? ⟨g, 0, none⟩ = some (.slice a.A0 s.r0.length a.c0) ∧ w.cell? ⟨g, 1, none⟩ = some (.slice a.A1 s.r1.length a.c1) ∧ w.cell? ⟨g, 2, none⟩ = some (.slice a.A2 s.d0.length a.c2) ∧ w.cell? ⟨g, 3, none⟩ = some (.slice a.A3 s.d1.length a.c3) ∧ w.cell? ⟨g, 4, none⟩ = some (.bool s.dn) := by
  refine ⟨?_, ?_, ?_, ?_, ?_⟩ <;> exact (blk_cell h _).trans rfl
end
theorem Fresh.later {W w w' : World} {l : List Int} {v : Value} (h : Fresh W l v w) (hb : Below w.heap.size w w') : Fresh W l v w' := ⟨Kd.R_step h.1 (fun k _ hlt => hb.block k hlt), h.2.trans (hb.mono h.2.size)⟩
/-- The same rows, in blocks from B on. -/
structure RdF (B : Nat) (w : World) (A : Option Addr) (c : Nat) (l : List Int) : Prop where
  F : Kd.F By w (fun k => B ≤ k) A l.length l
  cap : l.length ≤ c
  len : l.length ≤ 16777216
structure SF (B : Nat) (w : World) (s : SD) (a : SL) : Prop where
  r0 : RdF B w a.A0 a.c0 s.r0
  r1 : RdF B w a.A1 a.c1 s.r1
  d0 : RdF B w a.A2 a.c2 s.d0
  d1 : RdF B w a.A3 a.c3 s.d1
section
variable {B : Nat} {w w' : World} {A : Option Addr} {c : Nat} {l : List Int} {s : SD} {a : SL} {S : Nat → Prop}
theorem RdF.upd (h : RdF B w A c l) (hu : Upd w w' S) (hS : ∀ k, S k → k < B) : RdF B w' A c l := ⟨f_upd h.F hu (fun k hk _ hs => by have := hS k hs; omega), h.cap, h.len⟩
theorem RdF.rd (h : RdF B w A c l) : Rd w A c l := ⟨f_now h.F, h.cap, h.len⟩
theorem SF.upd (h : SF B w s a) (hu : Upd w w' S) (hS : ∀ k, S k → k < B) : SF B w' s a := ⟨h.r0.upd hu hS, h.r1.upd hu hS, h.d0.upd hu hS, h.d1.upd hu hS⟩
theorem SF.below (h : SF B w s a) (hb : Below w.heap.size w w') : SF B w' s a := h.upd (Upd.of_below hb (fun _ => False)) (fun _ h_ => h_.elim)
theorem SF.sc (h : SF B w s a) : SC w s a := ⟨h.r0.rd, h.r1.rd, h.d0.rd, h.d1.rd⟩
end
theorem side_of {W w : World} {v : Value} {l : List Int} (h : Sl W w v l) (hl : l.length ≤ 16777216) : ∃ A c, v = .slice A l.length c ∧ RdF W.heap.size w A c l := by
  obtain ⟨A, c, rfl, h1, h2, _⟩ := h
  exact ⟨A, c, rfl, Kd.F_mono h2 (fun k hk => by omega), h1, hl⟩
/-- side, in these words. -/
theorem sides_calls {W : World} {B g : Nat} {o : Nat → Prop} {p : PM} (h : Rep W B o g p) (hp : p.ok) : Calls Try.prog 22 #[.pointer (some ⟨g, 0, none⟩)] W fun e W' => ∃ a, e = .returned (.agg (SDV p.sd a)) ∧ SF W.heap.size W' p.sd a ∧ Below W.heap.size W W' := by
  have hr : ∀ n, (p.read n).1.length ≤ 16777216 := fun n => by
    have h0 := hp.l0; have h1 := hp.l1
    unfold PM.read PM.all
    split
    · simp
    split
    · simp
    · dsimp only; split <;> assumption
  have hd : ∀ n, (p.dur n).1.length ≤ 16777216 := fun n => by
    unfold PM.dur
    split
    · simp
    · have := all_len hp n; dsimp only; rw [List.length_take]; omega
  refine (side_calls h hp).mono fun e W' ⟨v0, v1, v2, v3, he, hb, h0, h1, h2, h3⟩ => ?_
  obtain ⟨A0, c0, rfl, e0⟩ := side_of h0 (hr 0)
  obtain ⟨A1, c1, rfl, e1⟩ := side_of h1 (hr 1)
  obtain ⟨A2, c2, rfl, e2⟩ := side_of h2 (hd 0)
  obtain ⟨A3, c3, rfl, e3⟩ := side_of h3 (hd 1)
  exact ⟨⟨A0, c0, A1, c1, A2, c2, A3, c3⟩, he, ⟨e0, e1, e2, e3⟩, hb⟩
end Go.Proofs.Yticokogggepfoaa.D
