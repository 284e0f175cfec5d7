/- works: a new disk keeps what is synced, goes down at a crash, and comes up again with it. No condition. -/
import Derived.Test.YticokogggepfoaaLA
namespace Go.Proofs.Yticokogggepfoaa.D
open Go.RowKit Go.Proofs.YticokogggepfoaaW.PrintWords Go.Proofs.YticokogggepfoaaW.PrintLast Go.Proofs.YticokogggepfoaaW.PrintMore Go.Proofs.Yticokogggepfoaa.G
attribute [local go_sem] max2_int min2_int max_two min_two max_three min_three max_four min_four
set_option linter.unusedVariables false
set_option linter.unusedSimpArgs false
set_option maxRecDepth 100000
def q0 : PM := ⟨[], 0, [], 0, [], false, 0⟩
def q1 : PM := ⟨[], 0, [5, 6], 0, [], false, 1⟩
def q2 : PM := ⟨[], 0, [5, 6], 2, [], false, 2⟩
def q3 : PM := ⟨[], 0, [5, 6], 2, [(1, 0)], false, 2⟩
def q4 : PM := ⟨[], 0, [5, 6], 2, [], true, 3⟩
def q5 : PM := ⟨[], 0, [5, 6], 2, [], false, 3⟩
def q6 : PM := ⟨[], 0, [5, 6, 8], 2, [], false, 4⟩
theorem ok_of {p : PM} (h : p.s0 ≤ p.b0.length ∧ p.s1 ≤ p.b1.length ∧ p.b0.length ≤ 16777216 ∧ p.b1.length ≤ 16777216 ∧ p.ar.length ≤ 64 ∧ ∀ a ∈ p.ar, 1 ≤ a.1 ∧ a.1 ≤ 1000000 ∧ 0 ≤ a.2 ∧ a.2 ≤ 16777216) : p.ok := ⟨h.1, h.2.1, h.2.2.1, h.2.2.2.1, h.2.2.2.2.1, h.2.2.2.2.2⟩
theorem q0_ok : q0.ok := ok_of (by decide)
theorem q1_ok : q1.ok := ok_of (by decide)
theorem q2_ok : q2.ok := ok_of (by decide)
theorem q3_ok : q3.ok := ok_of (by decide)
theorem q4_ok : q4.ok := ok_of (by decide)
theorem q5_ok : q5.ok := ok_of (by decide)
theorem q6_ok : q6.ok := ok_of (by decide)
theorem s1 : q0.append 1 [5, 6] = (q1, 0) := by kernel_rfl
theorem s2 : q1.syncf 1 = (q2, 0) := by kernel_rfl
theorem s3 : q2.arm 1 0 = (q3, 0) := by kernel_rfl
theorem s4 : q3.append 1 [7] = (q4, 51) := by kernel_rfl
theorem s5 : q4.restart = (q5, 0) := by kernel_rfl
theorem s6 : q5.append 1 [8] = (q6, 0) := by kernel_rfl
theorem s7 : q6.restart = (q6, 53) := by kernel_rfl
theorem r2 : q2.dur 1 = ([5, 6], 0) := by kernel_rfl
theorem r5 : q5.read 1 = ([5, 6], 0) := by kernel_rfl
set_option maxHeartbeats 2000000 in
theorem works_calls (W : World) : Calls Try.prog 11 #[] W fun e W' => e = .returned (.bool true) ∧ Below W.heap.size W W' := by
  go_enter Try.func11, Try.ntmps11
  go_wp2_with fail
  refine (new_calls (B := W.heap.size) W (Nat.le_refl _)).mono ?_
  rintro e w1 ⟨rfl, hr, hb⟩
  have D1 : Aside0 (Dk W w1 _ W.heap.size q0) := ⟨dk_new (Below.refl _ _) hr hb⟩
  clear hr hb
  go_wp2_with fail
  refine (append_calls (D1.out.keep (below_alloc (Below.refl _ _) _)).rep q0_ok (D1.out.keep (below_alloc (Below.refl _ _) _)).bw 1 _ _ [5, 6] (lit_C w1 [5, 6] (by decide)) (by decide)).mono ?_
  rintro e w2 ⟨rfl, hr, hu⟩
  rw [s1] at hr ⊢
  have D2 := Aside0.mk ((D1.out.keep (below_alloc (Below.refl _ _) _)).step hr hu)
  clear hr hu
  go_wp2_with fail
  refine (sync_calls D2.out.rep q1_ok D2.out.bw 1).mono ?_
  rintro e w3 ⟨rfl, hr, hu⟩
  rw [s2] at hr ⊢
  have D3 := Aside0.mk (D2.out.step hr hu)
  clear hr hu
  go_wp2_with fail
  refine (dur_calls D3.out.rep q2_ok 1).mono ?_
  rintro e w4 ⟨v, rfl, hf⟩
  rw [r2] at hf ⊢
  obtain ⟨B1, b1, rfl, hb1⟩ := Kd.R_slice_len hf.1
  have D4 := Aside0.mk (D3.out.keep hf.2)
  have HF := Aside0.mk hf
  have HB := Aside0.mk hb1
  clear hf hb1
  go_wp2_with fail
  refine (equal_calls (A := B1) (l := [5, 6]) (r := [5, 6]) (Kd.C_alloc HF.out.reads _) HB.out (lit_C w4 [5, 6] (by decide)) (by decide) (by decide)).mono ?_
  rintro e w5 ⟨rfl, hb⟩
  rw [decide_eq_true rfl]
  have D5 := Aside0.mk ((D4.out.keep (below_alloc (Below.refl _ _) _)).keep hb)
  clear hb
  go_wp2_with fail
  refine (arm_calls D5.out.rep q2_ok D5.out.bw 1 0).mono ?_
  rintro e w6 ⟨rfl, hr, hu⟩
  rw [s3] at hr ⊢
  have D6 := Aside0.mk (D5.out.step hr hu)
  clear hr hu
  go_wp2_with fail
  refine (append_calls (D6.out.keep (below_alloc (Below.refl _ _) _)).rep q3_ok (D6.out.keep (below_alloc (Below.refl _ _) _)).bw 1 _ _ [7] (lit_C w6 [7] (by decide)) (by decide)).mono ?_
  rintro e w7 ⟨rfl, hr, hu⟩
  rw [s4] at hr ⊢
  have D7 := Aside0.mk ((D6.out.keep (below_alloc (Below.refl _ _) _)).step hr hu)
  clear hr hu
  go_wp2_with fail
  refine (down_calls D7.out.rep).mono ?_
  rintro e w8 ⟨rfl, rfl⟩
  rw [show q4.dn = true from rfl]
  go_wp2_with fail
  refine (restart_calls D7.out.rep).mono ?_
  rintro e w9 ⟨rfl, hr, hu⟩
  rw [s5] at hr ⊢
  have D9 := Aside0.mk (D7.out.step0 hr hu)
  clear hr hu
  go_wp2_with fail
  refine (down_calls D9.out.rep).mono ?_
  rintro e w10 ⟨rfl, rfl⟩
  rw [show q5.dn = false from rfl]
  go_wp2_with fail
  refine (read_calls D9.out.rep q5_ok 1).mono ?_
  rintro e w11 ⟨v, rfl, hf⟩
  rw [r5] at hf ⊢
  obtain ⟨B2, b2, rfl, hb2⟩ := Kd.R_slice_len hf.1
  have D11 := Aside0.mk (D9.out.keep hf.2)
  have HF2 := Aside0.mk hf
  have HB2 := Aside0.mk hb2
  clear hf hb2
  go_wp2_with fail
  refine (append_calls (D11.out.keep (below_alloc (Below.refl _ _) _)).rep q5_ok (D11.out.keep (below_alloc (Below.refl _ _) _)).bw 1 _ _ [8] (lit_C w11 [8] (by decide)) (by decide)).mono ?_
  rintro e w12 ⟨rfl, hr, hu⟩
  rw [s6] at hr ⊢
  have D12 := Aside0.mk ((D11.out.keep (below_alloc (Below.refl _ _) _)).step hr hu)
  have HC2 := Aside0.mk (f_now (f_upd (Kd.F_alloc (f_of_R HF2.out.1) _) hu (fun k hk _ ho => by have := D9.out.lt k ho; have := hk.2.1; omega)))
  clear hr hu
  go_wp2_with fail
  refine (equal_calls (A := B2) (l := [5, 6]) (r := [5, 6]) (Kd.C_alloc HC2.out _) HB2.out (lit_C w12 [5, 6] (by decide)) (by decide) (by decide)).mono ?_
  rintro e w13 ⟨rfl, hb⟩
  rw [decide_eq_true rfl]
  have D13 := Aside0.mk ((D12.out.keep (below_alloc (Below.refl _ _) _)).keep hb)
  clear hb
  go_wp2_with fail
  refine (restart_calls D13.out.rep).mono ?_
  rintro e w14 ⟨rfl, hr, hu⟩
  rw [s7] at hr ⊢
  have D14 := Aside0.mk (D13.out.step0 hr hu)
  clear hr hu
  go_wp2_with fail
  go_ret
  exact ⟨rfl, D14.out.below⟩
end Go.Proofs.Yticokogggepfoaa.D
