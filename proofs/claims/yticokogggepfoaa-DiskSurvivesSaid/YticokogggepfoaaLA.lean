/- A law's disk: what it is said to hold, call by call; works. No condition. -/
import Derived.Test.YticokogggepfoaaRB
namespace Go.Proofs.Yticokogggepfoaa.D
open Go.RowKit Go.Proofs.YticokogggepfoaaW.PrintWords Go.Proofs.YticokogggepfoaaW.PrintLast Go.Proofs.YticokogggepfoaaW.PrintMore Go.Proofs.Yticokogggepfoaa.G
attribute [local go_sem] max2_int min2_int max_two min_two max_three min_three max_four min_four
set_option linter.unusedVariables false
set_option linter.unusedSimpArgs false
set_option maxRecDepth 100000
/-- A disk that the call made: its blocks are among o, all of them new since W. -/
structure Dk (W w : World) (o : Nat → Prop) (g : Nat) (p : PM) : Prop where
  rep : Rep w W.heap.size o g p
  lt : ∀ k, o k → k < w.heap.size
  lo : ∀ k, o k → W.heap.size ≤ k
  below : Below W.heap.size W w
section
variable {W w w' : World} {o : Nat → Prop} {g : Nat} {p p' : PM}
theorem Dk.bw (h : Dk W w o g p) : W.heap.size ≤ w.heap.size := h.below.size
theorem Dk.keep (h : Dk W w o g p) (hb : Below w.heap.size w w') : Dk W w' o g p :=
  ⟨h.rep.upd (Upd.of_below hb (fun _ => False)) (fun _ _ _ hk => hk), fun k hk => Nat.lt_of_lt_of_le (h.lt k hk) hb.size, h.lo, h.below.trans (hb.mono h.bw)⟩
theorem Dk.step (h : Dk W w o g p) (hr : Rep w' W.heap.size (fun k => o k ∨ w.heap.size ≤ k) g p') (hu : Upd w w' o) : Dk W w' (fun k => (o k ∨ w.heap.size ≤ k) ∧ W.heap.size ≤ k ∧ k < w'.heap.size) g p' :=
  ⟨hr.bound, fun k hk => hk.2.2, fun k hk => hk.2.1, hu.below h.below h.lo h.bw⟩
theorem Dk.step0 (h : Dk W w o g p) (hr : Rep w' W.heap.size o g p') (hu : Upd w w' o) : Dk W w' (fun k => (o k ∨ w.heap.size ≤ k) ∧ W.heap.size ≤ k ∧ k < w'.heap.size) g p' := h.step (hr.mono (fun _ hk => .inl hk)) hu
theorem dk_new (hb : Below W.heap.size W w) (hr : Rep w' W.heap.size (fun k => k = w.heap.size) w.heap.size p) (hb2 : Below w.heap.size w w') : Dk W w' (fun k => (k = w.heap.size) ∧ W.heap.size ≤ k ∧ k < w'.heap.size) w.heap.size p :=
  ⟨hr.bound, fun k hk => hk.2.2, fun k hk => hk.2.1, hb.trans (hb2.mono hb.size)⟩
end
/-- Bytes of a list that is written out. -/
theorem lit_C (w : World) (xs : List Int) (hx : xs.length ≤ 1000) : Kd.C By (w.alloc (.cells (nums .u8 xs).toArray 5)) (some ⟨w.heap.size, 0, none⟩) xs.length xs :=
  (Kd.R_reads' (Go.Proofs.Yticokogggepfoaa.Hand.R_of_own (own_lit w w.heap.size 5 .u8 xs (Nat.le_refl _) (by omega)))).2.2
end Go.Proofs.Yticokogggepfoaa.D
