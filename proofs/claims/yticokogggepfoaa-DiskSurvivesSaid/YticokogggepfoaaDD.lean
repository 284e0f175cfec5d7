/- The program's disk: the calls that read, arm, disarm, restart; a new one. No condition but what the disk holds. -/
import Derived.Test.YticokogggepfoaaDC
namespace Go.Proofs.Yticokogggepfoaa.D
open Go.RowKit Go.Proofs.YticokogggepfoaaW.PrintWords Go.Proofs.YticokogggepfoaaW.PrintLast Go.Proofs.YticokogggepfoaaW.PrintMore
attribute [local go_sem] max2_int min2_int max_two min_two max_three min_three max_four min_four
set_option linter.unusedVariables false
set_option linter.unusedSimpArgs false
set_option maxRecDepth 100000
theorem info61 : (Try.prog.info? 61).map (fun i => (i.zero, i.size, i.bytes)) = some (some (.agg #[.int .i64 0, .int .i64 0]), 2, 16) := by kernel_rfl
/-- What a call that only makes memory hands back: a row of bytes. -/
def Fresh (W : World) (l : List Int) (v : Value) (W' : World) : Prop := Kd.R By 5 W' W.heap.size (fun _ => True) v l ∧ Below W.heap.size W W'
theorem fresh_calls (A : Option Addr) (c : Nat) (l : List Int) (W : World) (hr : Kd.C By W A l.length l) (hl : l.length ≤ 140737488355328) :
    Calls Try.prog 35 #[.slice A l.length c] W fun e W' => ∃ v, e = .returned v ∧ Fresh W l v W' := by
  have HR := Aside0.mk hr
  have HL := Aside0.mk hl
  clear hr hl
  go_enter Try.func35, Try.ntmps35
  go_wp2_with (first
    | ((with_reducible refine gate_dst (N := 6) rfl ?_); refine Kd.R_make By (w0 := W) W.heap.size 5 rfl (N := 6) rfl 28 _ _ rfl (l.length : Int) rfl rfl Try.underlying28 (.int .u8 0) 1 G.info5 rfl (by decide) (by decide) 0 (ok := fun _ => True) (okp := fun _ => True) rfl (fun _ hk => hk) trivial (Int.natCast_nonneg _) (by have := HL.out; rw [Int.toNat_natCast]; omega) (Below.refl _ _) (Nat.le_refl _) ?_; intro v1 w1 ho1 hb1 hg1 hn1; rw [Int.toNat_natCast] at ho1; have HO1 := Aside0.mk ho1; have HB1 := Aside0.mk hb1; clear ho1 hb1 hg1 hn1)
    | ((with_reducible refine gate_builtin (b := .copy) (xs := #[.tmp 7, .tmp 8]) rfl ?_); refine Kd.R_copy (0 : Int) (w0 := W) W.heap.size rfl (.tmp 7) (.tmp 8) 28 28 5 rfl Try.underlying28 (by kernel_rfl) v1 (List.replicate l.length 0) l A l.length c (fun _ => True) rfl rfl HO1.out (Kd.C_below HR.out HB1.out) HB1.out HB1.out.size ?_; intro w2 ho2 hb2 hg2; have HO2 := Aside0.mk ho2; have HB2 := Aside0.mk hb2; clear ho2 hb2 hg2))
  go_ret
  refine ⟨_, rfl, ?_, HB2.out⟩
  have h2 := HO2.out
  simp only [List.length_replicate, Nat.min_self, List.take_length, List.drop_replicate, Nat.sub_self, List.replicate_zero, List.append_nil] at h2
  exact h2
section
variable {W : World} {B g : Nat} {ok : Nat → Prop} {p : PM}
theorem down_calls (h : Rep W B ok g p) : Calls Try.prog 18 #[.pointer (some ⟨g, 0, none⟩)] W fun e W' => e = .returned (.bool p.dn) ∧ W = W' := by
  obtain ⟨v0, v1, va, h⟩ := h
  obtain ⟨c0, c1, c2, c3, c4, c5, c6⟩ := dc_cells h.blk
  clear h c0 c1 c2 c3 c4 c6
  go_enter Try.func18, Try.ntmps18
  go_wp2
  go_ret
  exact ⟨rfl, rfl⟩
theorem writes_calls (h : Rep W B ok g p) : Calls Try.prog 19 #[.pointer (some ⟨g, 0, none⟩)] W fun e W' => e = .returned (.int .i64 p.wr) ∧ W = W' := by
  obtain ⟨v0, v1, va, h⟩ := h
  obtain ⟨c0, c1, c2, c3, c4, c5, c6⟩ := dc_cells h.blk
  clear h c0 c1 c2 c3 c4 c5
  go_enter Try.func19, Try.ntmps19
  go_wp2
  go_ret
  exact ⟨rfl, rfl⟩
def PM.restart (p : PM) : PM × Int := if p.dn = true then ({ p with dn := false }, 0) else (p, 53)
theorem restart_calls (h : Rep W B ok g p) : Calls Try.prog 29 #[.pointer (some ⟨g, 0, none⟩)] W fun e W' => e = .returned (.int .i64 p.restart.2) ∧ Rep W' B ok g p.restart.1 ∧ Upd W W' ok := by
  obtain ⟨v0, v1, va, h⟩ := h
  obtain ⟨c0, c1, c2, c3, c4, c5, c6⟩ := dc_cells h.blk
  have hf := blk_frozen h.blk
  have H := Aside0.mk h
  cases hd : p.dn with
  | true =>
    have e : p.restart = ({ p with dn := false }, 0) := by unfold PM.restart; rw [if_pos hd]
    rw [e]
    rw [hd] at c5
    clear h c0 c1 c2 c3 c4 c6 e hd
    go_enter Try.func29, Try.ntmps29
    go_wp2
    go_ret
    exact ⟨rfl, ⟨_, _, _, H.out.set_dn false⟩, (Upd.refl _ _).setCell (fun _ => H.out.okg) _⟩
  | false =>
    have e : p.restart = (p, 53) := by unfold PM.restart; rw [if_neg (by rw [hd]; simp)]
    rw [e]
    rw [hd] at c5
    clear h c0 c1 c2 c3 c4 c6 e hd
    go_enter Try.func29, Try.ntmps29
    go_wp2
    go_ret
    exact ⟨rfl, ⟨_, _, _, H.out⟩, Upd.refl _ _⟩
def PM.disarm (p : PM) : PM := { p with ar := [] }
theorem disarm_calls (h : Rep W B ok g p) : Calls Try.prog 27 #[.pointer (some ⟨g, 0, none⟩)] W fun e W' => (∃ v, e = .returned v) ∧ Rep W' B ok g p.disarm ∧ Upd W W' ok := by
  obtain ⟨v0, v1, va, h⟩ := h
  obtain ⟨c0, c1, c2, c3, c4, c5, c6⟩ := dc_cells h.blk
  have hf := blk_frozen h.blk
  have H := Aside0.mk h
  clear h c0 c1 c2 c3 c5 c6
  go_enter Try.func27, Try.ntmps27
  go_wp2
  first | go_end0 | skip
  exact ⟨⟨_, rfl⟩, ⟨_, _, _, H.out.set_ar _ [] (Kd.Q_nil _ _ _ _ _)⟩, (Upd.refl _ _).setCell (fun _ => H.out.okg) _⟩
theorem new_calls (W : World) (hB : B ≤ W.heap.size) : Calls Try.prog 12 #[] W fun e W' => e = .returned (.pointer (some ⟨W.heap.size, 0, none⟩)) ∧ Rep W' B (fun k => k = W.heap.size) W.heap.size ⟨[], 0, [], 0, [], false, 0⟩ ∧ Below W.heap.size W W' := by
  go_enter Try.func12, Try.ntmps12
  go_wp2
  go_ret
  refine ⟨rfl, ⟨_, _, _, heap_alloc_new W _, Kd.R_nil _ _ _ _ _, Kd.R_nil _ _ _ _ _, Kd.Q_nil _ _ _ _ _, rfl, hB⟩, below_alloc (Below.refl _ _) _⟩
end
end Go.Proofs.Yticokogggepfoaa.D
