/- The program's disk: Arm. No condition but what the disk holds. -/
import Derived.Test.YticokogggepfoaaDE
namespace Go.Proofs.Yticokogggepfoaa.D
open Go.RowKit Go.Proofs.YticokogggepfoaaW.PrintWords Go.Proofs.YticokogggepfoaaW.PrintLast Go.Proofs.YticokogggepfoaaW.PrintMore
attribute [local go_sem] max2_int min2_int max_two min_two max_three min_three max_four min_four
set_option linter.unusedVariables false
set_option linter.unusedSimpArgs false
set_option maxRecDepth 100000
def badA (a k : Int) : Prop := a < 1 ∨ 1000000 < a ∨ k < 0 ∨ 16777216 < k
instance (a k : Int) : Decidable (badA a k) := inferInstanceAs (Decidable (a < 1 ∨ 1000000 < a ∨ k < 0 ∨ 16777216 < k))
def PM.arm (p : PM) (a k : Int) : PM × Int := if badA a k then (p, 2) else if 64 ≤ p.ar.length then (p, 1) else ({ p with ar := p.ar ++ [(a, k)] }, 0)
variable {W : World} {B g : Nat} {ok : Nat → Prop} {p : PM}
theorem cr_M (W : World) (B : Nat) (o : Nat → Prop) (a k : Int) : Kd.M Cr W B o (a, k) [.int .i64 a, .int .i64 k] := ⟨[.int .i64 a], [.int .i64 k], rfl, rfl, rfl⟩
theorem arm_calls (h : Rep W B ok g p) (hp : p.ok) (hBW : B ≤ W.heap.size) (a k : Int) : Calls Try.prog 13 #[.pointer (some ⟨g, 0, none⟩), .int .i64 a, .int .i64 k] W fun e W' => e = .returned (.int .i64 (p.arm a k).2) ∧ Rep W' B (fun k => ok k ∨ W.heap.size ≤ k) g (p.arm a k).1 ∧ Upd W W' ok := by
  by_cases hb : badA a k
  · have e : p.arm a k = (p, 2) := by unfold PM.arm; rw [if_pos hb]
    rw [e]
    have hg : Rep W B (fun k => ok k ∨ W.heap.size ≤ k) g p ∧ Upd W W ok := ⟨h.mono (fun _ hk => .inl hk), Upd.refl _ _⟩
    clear h hp e
    by_cases b1 : a < 1
    · have d1 : decide (a < 1) = true := decide_eq_true b1
      clear hb b1
      go_enter Try.func13, Try.ntmps13
      go_wp2
      go_ret
      exact ⟨rfl, hg⟩
    have d1 : decide (a < 1) = false := decide_eq_false b1
    by_cases b2 : 1000000 < a
    · have d2 : decide (1000000 < a) = true := decide_eq_true b2
      clear hb b1 b2
      go_enter Try.func13, Try.ntmps13
      go_wp2
      go_ret
      exact ⟨rfl, hg⟩
    have d2 : decide (1000000 < a) = false := decide_eq_false b2
    by_cases b3 : k < 0
    · have d3 : decide (k < 0) = true := decide_eq_true b3
      clear hb b1 b2 b3
      go_enter Try.func13, Try.ntmps13
      go_wp2
      go_ret
      exact ⟨rfl, hg⟩
    have d3 : decide (k < 0) = false := decide_eq_false b3
    have d4 : decide (16777216 < k) = true := decide_eq_true (by unfold badA at hb; omega)
    clear hb b1 b2 b3
    go_enter Try.func13, Try.ntmps13
    go_wp2
    go_ret
    exact ⟨rfl, hg⟩
  have d1 : decide (a < 1) = false := decide_eq_false (by unfold badA at hb; omega)
  have d2 : decide (1000000 < a) = false := decide_eq_false (by unfold badA at hb; omega)
  have d3 : decide (k < 0) = false := decide_eq_false (by unfold badA at hb; omega)
  have d4 : decide (16777216 < k) = false := decide_eq_false (by unfold badA at hb; omega)
  obtain ⟨v0, v1, va, h⟩ := h
  obtain ⟨c0, c1, c2, c3, c4, c5, c6⟩ := dc_cells h.blk
  have hf := blk_frozen h.blk
  obtain ⟨A, c, rfl, hc⟩ := Kd.Q_slice h.ra
  have H := Aside0.mk h
  have HP := Aside0.mk hp
  have HBW := Aside0.mk hBW
  by_cases hl : 64 ≤ p.ar.length
  · have e : p.arm a k = (p, 1) := by unfold PM.arm; rw [if_neg hb, if_pos hl]
    rw [e]
    clear h hp hc hBW c0 c1 c2 c3 c5 c6 e hb
    go_enter Try.func13, Try.ntmps13
    go_wp2
    go_ret
    exact ⟨rfl, ⟨_, _, _, H.out.mono (fun _ hk => .inl hk)⟩, Upd.refl _ _⟩
  · have e : p.arm a k = ({ p with ar := p.ar ++ [(a, k)] }, 0) := by unfold PM.arm; rw [if_neg hb, if_neg hl]
    rw [e]
    have hl2 : p.ar.length < 64 := by omega
    have d5 : decide (64 ≤ (p.ar.length : Int)) = false := decide_eq_false (by omega)
    have hl3 : (p.ar.length + 1) * 16 ≤ 140737488355328 := by omega
    have HL3 := Aside0.mk hl3
    clear h hp hc hBW c0 c1 c2 c3 c5 c6 e hb hl hl3
    go_enter Try.func13, Try.ntmps13
    go_wp2_with ((refine gate_builtin (b := .append) (xs := #[.tmp 31, .tmp 35]) rfl ?_); at_builtin; refine Kd.Q_append Cr (w0 := W) B rfl (.tmp 31) (.tmp 35) 57 61 (.agg #[.int .i64 0, .int .i64 0]) 16 rfl Try.underlying57 info61 rfl (by decide) (by decide) (.slice A p.ar.length c) p.ar (a, k) [.int .i64 a, .int .i64 k] (fun k => ok k ∨ W.heap.size ≤ k) (fun _ => False) rfl rfl (cr_M _ _ _ a k) (fun _ hk => hk.elim) (fun _ hk => .inr hk) (Kd.Q_mono H.out.ra (fun _ hk => .inl hk)) (Below.refl _ _) HBW.out HL3.out ?_; intro u1 w1 hr1 hb1 hg1 hat1; obtain ⟨A1, n1, rfl, hn1⟩ := Kd.Q_slice hr1; rw [List.length_append, List.length_singleton] at hr1; have hh := H.out.appa hr1 hg1; have hbk := blk_grown H.out.blk hg1 (Kd.Q_ne H.out.ra H.out.blk (by decide)); have HH := Aside0.mk hh; obtain ⟨x0, x1, x2, x3, x4, x5, x6⟩ := dc_cells hbk; have hf1 := blk_frozen hbk; clear hr1 hb1 hg1 hat1 hh hbk x0 x1 x2 x3 x5 x6 hn1)
    go_ret
    exact ⟨rfl, ⟨_, _, _, HH.out.1⟩, HH.out.2⟩
end Go.Proofs.Yticokogggepfoaa.D
