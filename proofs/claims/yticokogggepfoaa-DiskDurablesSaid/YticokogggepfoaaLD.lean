/- A law's disk: what it is said to hold, call by call; works. works: a new disk keeps what is synced, goes down at a crash, and comes up again with it. One crash on a new disk, chunk by chunk: what the disk holds then. No condition but the lists' bulk. DiskCountdown: the walk. No condition but the lists' bulk. No condition but what is said. -/
import Derived.Test.YticokogggepfoaaRB
import Derived.Deep.DeepCutAuto
namespace Go.Proofs.Yticokogggepfoaa.D
open Go.RowKit Go.Proofs.YticokogggepfoaaW.PrintWords Go.Proofs.YticokogggepfoaaW.PrintLast Go.Proofs.YticokogggepfoaaW.PrintMore Go.Proofs.Yticokogggepfoaa.G
attribute [local go_sem] max2_int min2_int max_two min_two max_three min_three max_four min_four
set_option linter.unusedVariables false
set_option linter.unusedSimpArgs false
set_option maxRecDepth 100000
/-- A disk that the call made: its blocks are among o, all of them new since W. -/
structure Dk (W w : World) (o : Nat → Prop) (g : Nat) (p : PM) : Prop where
  rep : Rep w W.heap.size o g p
  lt : ∀ k, o k → k < w.heap.size
  lo : ∀ k, o k → W.heap.size ≤ k
  below : Below W.heap.size W w
section
variable {W w w' : World} {o : Nat → Prop} {g : Nat} {p p' : PM}
theorem Dk.bw (h : Dk W w o g p) : W.heap.size ≤ w.heap.size := h.below.size
theorem Dk.keep (h : Dk W w o g p) (hb : Below w.heap.size w w') : Dk W w' o g p :=
  ⟨h.rep.upd (Upd.of_below hb (fun _ => False)) (fun _ _ _ hk => hk), fun k hk => Nat.lt_of_lt_of_le (h.lt k hk) hb.size, h.lo, h.below.trans (hb.mono h.bw)⟩
theorem Dk.step (h : Dk W w o g p) (hr : Rep w' W.heap.size (fun k => o k ∨ w.heap.size ≤ k) g p') (hu : Upd w w' o) : Dk W w' (fun k => (o k ∨ w.heap.size ≤ k) ∧ W.heap.size ≤ k ∧ k < w'.heap.size) g p' :=
  ⟨hr.bound, fun k hk => hk.2.2, fun k hk => hk.2.1, hu.below h.below h.lo h.bw⟩
theorem Dk.step0 (h : Dk W w o g p) (hr : Rep w' W.heap.size o g p') (hu : Upd w w' o) : Dk W w' (fun k => (o k ∨ w.heap.size ≤ k) ∧ W.heap.size ≤ k ∧ k < w'.heap.size) g p' := h.step (hr.mono (fun _ hk => .inl hk)) hu
theorem dk_new (hb : Below W.heap.size W w) (hr : Rep w' W.heap.size (fun k => k = w.heap.size) w.heap.size p) (hb2 : Below w.heap.size w w') : Dk W w' (fun k => (k = w.heap.size) ∧ W.heap.size ≤ k ∧ k < w'.heap.size) w.heap.size p :=
  ⟨hr.bound, fun k hk => hk.2.2, fun k hk => hk.2.1, hb.trans (hb2.mono hb.size)⟩
end
/-- Bytes of a list that is written out. -/
theorem lit_C (w : World) (xs : List Int) (hx : xs.length ≤ 1000) : Kd.C By (w.alloc (.cells (nums .u8 xs).toArray 5)) (some ⟨w.heap.size, 0, none⟩) xs.length xs :=
  (Kd.R_reads' (Go.Proofs.Yticokogggepfoaa.Hand.R_of_own (own_lit w w.heap.size 5 .u8 xs (Nat.le_refl _) (by omega)))).2.2
end Go.Proofs.Yticokogggepfoaa.D
namespace Go.Proofs.Yticokogggepfoaa.D
open Go.RowKit Go.Proofs.YticokogggepfoaaW.PrintWords Go.Proofs.YticokogggepfoaaW.PrintLast Go.Proofs.YticokogggepfoaaW.PrintMore Go.Proofs.Yticokogggepfoaa.G
attribute [local go_sem] max2_int min2_int max_two min_two max_three min_three max_four min_four
set_option linter.unusedVariables false
set_option linter.unusedSimpArgs false
set_option maxRecDepth 100000
def q0 : PM := ⟨[], 0, [], 0, [], false, 0⟩
def q1 : PM := ⟨[], 0, [5, 6], 0, [], false, 1⟩
def q2 : PM := ⟨[], 0, [5, 6], 2, [], false, 2⟩
def q3 : PM := ⟨[], 0, [5, 6], 2, [(1, 0)], false, 2⟩
def q4 : PM := ⟨[], 0, [5, 6], 2, [], true, 3⟩
def q5 : PM := ⟨[], 0, [5, 6], 2, [], false, 3⟩
def q6 : PM := ⟨[], 0, [5, 6, 8], 2, [], false, 4⟩
theorem ok_of {p : PM} (h : p.s0 ≤ p.b0.length ∧ p.s1 ≤ p.b1.length ∧ p.b0.length ≤ 16777216 ∧ p.b1.length ≤ 16777216 ∧ p.ar.length ≤ 64 ∧ ∀ a ∈ p.ar, 1 ≤ a.1 ∧ a.1 ≤ 1000000 ∧ 0 ≤ a.2 ∧ a.2 ≤ 16777216) : p.ok := ⟨h.1, h.2.1, h.2.2.1, h.2.2.2.1, h.2.2.2.2.1, h.2.2.2.2.2⟩
theorem q0_ok : q0.ok := ok_of (by decide)
theorem q1_ok : q1.ok := ok_of (by decide)
theorem q2_ok : q2.ok := ok_of (by decide)
theorem q3_ok : q3.ok := ok_of (by decide)
theorem q4_ok : q4.ok := ok_of (by decide)
theorem q5_ok : q5.ok := ok_of (by decide)
theorem q6_ok : q6.ok := ok_of (by decide)
theorem s1 : q0.append 1 [5, 6] = (q1, 0) := by kernel_rfl
theorem s2 : q1.syncf 1 = (q2, 0) := by kernel_rfl
theorem s3 : q2.arm 1 0 = (q3, 0) := by kernel_rfl
theorem s4 : q3.append 1 [7] = (q4, 51) := by kernel_rfl
theorem s5 : q4.restart = (q5, 0) := by kernel_rfl
theorem s6 : q5.append 1 [8] = (q6, 0) := by kernel_rfl
theorem s7 : q6.restart = (q6, 53) := by kernel_rfl
theorem r2 : q2.dur 1 = ([5, 6], 0) := by kernel_rfl
theorem r5 : q5.read 1 = ([5, 6], 0) := by kernel_rfl
set_option maxHeartbeats 2000000 in
theorem works_calls (W : World) : Calls Try.prog 11 #[] W fun e W' => e = .returned (.bool true) ∧ Below W.heap.size W W' := by
  go_enter Try.func11, Try.ntmps11
  go_wp2_with fail
  refine (new_calls (B := W.heap.size) W (Nat.le_refl _)).mono ?_
  rintro e w1 ⟨rfl, hr, hb⟩
  have D1 : Aside0 (Dk W w1 _ W.heap.size q0) := ⟨dk_new (Below.refl _ _) hr hb⟩
  clear hr hb
  go_wp2_with fail
  refine (append_calls (D1.out.keep (below_alloc (Below.refl _ _) _)).rep q0_ok (D1.out.keep (below_alloc (Below.refl _ _) _)).bw 1 _ _ [5, 6] (lit_C w1 [5, 6] (by decide)) (by decide)).mono ?_
  rintro e w2 ⟨rfl, hr, hu⟩
  rw [s1] at hr ⊢
  have D2 := Aside0.mk ((D1.out.keep (below_alloc (Below.refl _ _) _)).step hr hu)
  clear hr hu
  go_wp2_with fail
  refine (sync_calls D2.out.rep q1_ok D2.out.bw 1).mono ?_
  rintro e w3 ⟨rfl, hr, hu⟩
  rw [s2] at hr ⊢
  have D3 := Aside0.mk (D2.out.step hr hu)
  clear hr hu
  go_wp2_with fail
  refine (dur_calls D3.out.rep q2_ok 1).mono ?_
  rintro e w4 ⟨v, rfl, hf⟩
  rw [r2] at hf ⊢
  obtain ⟨B1, b1, rfl, hb1⟩ := Kd.R_slice_len hf.1
  have D4 := Aside0.mk (D3.out.keep hf.2)
  have HF := Aside0.mk hf
  have HB := Aside0.mk hb1
  clear hf hb1
  go_wp2_with fail
  refine (equal_calls (A := B1) (l := [5, 6]) (r := [5, 6]) (Kd.C_alloc HF.out.reads _) HB.out (lit_C w4 [5, 6] (by decide)) (by decide) (by decide)).mono ?_
  rintro e w5 ⟨rfl, hb⟩
  rw [decide_eq_true rfl]
  have D5 := Aside0.mk ((D4.out.keep (below_alloc (Below.refl _ _) _)).keep hb)
  clear hb
  go_wp2_with fail
  refine (arm_calls D5.out.rep q2_ok D5.out.bw 1 0).mono ?_
  rintro e w6 ⟨rfl, hr, hu⟩
  rw [s3] at hr ⊢
  have D6 := Aside0.mk (D5.out.step hr hu)
  clear hr hu
  go_wp2_with fail
  refine (append_calls (D6.out.keep (below_alloc (Below.refl _ _) _)).rep q3_ok (D6.out.keep (below_alloc (Below.refl _ _) _)).bw 1 _ _ [7] (lit_C w6 [7] (by decide)) (by decide)).mono ?_
  rintro e w7 ⟨rfl, hr, hu⟩
  rw [s4] at hr ⊢
  have D7 := Aside0.mk ((D6.out.keep (below_alloc (Below.refl _ _) _)).step hr hu)
  clear hr hu
  go_wp2_with fail
  refine (down_calls D7.out.rep).mono ?_
  rintro e w8 ⟨rfl, rfl⟩
  rw [show q4.dn = true from rfl]
  go_wp2_with fail
  refine (restart_calls D7.out.rep).mono ?_
  rintro e w9 ⟨rfl, hr, hu⟩
  rw [s5] at hr ⊢
  have D9 := Aside0.mk (D7.out.step0 hr hu)
  clear hr hu
  go_wp2_with fail
  refine (down_calls D9.out.rep).mono ?_
  rintro e w10 ⟨rfl, rfl⟩
  rw [show q5.dn = false from rfl]
  go_wp2_with fail
  refine (read_calls D9.out.rep q5_ok 1).mono ?_
  rintro e w11 ⟨v, rfl, hf⟩
  rw [r5] at hf ⊢
  obtain ⟨B2, b2, rfl, hb2⟩ := Kd.R_slice_len hf.1
  have D11 := Aside0.mk (D9.out.keep hf.2)
  have HF2 := Aside0.mk hf
  have HB2 := Aside0.mk hb2
  clear hf hb2
  go_wp2_with fail
  refine (append_calls (D11.out.keep (below_alloc (Below.refl _ _) _)).rep q5_ok (D11.out.keep (below_alloc (Below.refl _ _) _)).bw 1 _ _ [8] (lit_C w11 [8] (by decide)) (by decide)).mono ?_
  rintro e w12 ⟨rfl, hr, hu⟩
  rw [s6] at hr ⊢
  have D12 := Aside0.mk ((D11.out.keep (below_alloc (Below.refl _ _) _)).step hr hu)
  have HC2 := Aside0.mk (f_now (f_upd (Kd.F_alloc (f_of_R HF2.out.1) _) hu (fun k hk _ ho => by have := D9.out.lt k ho; have := hk.2.1; omega)))
  clear hr hu
  go_wp2_with fail
  refine (equal_calls (A := B2) (l := [5, 6]) (r := [5, 6]) (Kd.C_alloc HC2.out _) HB2.out (lit_C w12 [5, 6] (by decide)) (by decide) (by decide)).mono ?_
  rintro e w13 ⟨rfl, hb⟩
  rw [decide_eq_true rfl]
  have D13 := Aside0.mk ((D12.out.keep (below_alloc (Below.refl _ _) _)).keep hb)
  clear hb
  go_wp2_with fail
  refine (restart_calls D13.out.rep).mono ?_
  rintro e w14 ⟨rfl, hr, hu⟩
  rw [s7] at hr ⊢
  have D14 := Aside0.mk (D13.out.step0 hr hu)
  clear hr hu
  go_wp2_with fail
  go_ret
  exact ⟨rfl, D14.out.below⟩
end Go.Proofs.Yticokogggepfoaa.D
namespace Go.Proofs.Yticokogggepfoaa.D
open Go.RowKit Go.Proofs.YticokogggepfoaaW.PrintWords Go.Proofs.YticokogggepfoaaW.PrintLast Go.Proofs.YticokogggepfoaaW.PrintMore Go.Proofs.Yticokogggepfoaa.G
set_option linter.unusedVariables false
set_option linter.unusedSimpArgs false
def cdA (m : Nat) (cs : List (List Int)) (i : Nat) : List Int := (cs.take (min i m)).flatten
def cdS (m K : Nat) (cs : List (List Int)) (i : Nat) : PM :=
  if i < m then ⟨cdA m cs i, 0, [], 0, [(((m - i : Nat) : Int), (K : Int))], false, (i : Int)⟩
  else ⟨(cdA m cs m).take (min (cdA m cs m).length K), min (cdA m cs m).length K, [], 0, [], true, (m : Int)⟩
theorem cdA_succ {m : Nat} {cs : List (List Int)} {i : Nat} (h : i < m) (hi : i < cs.length) : cdA m cs (i + 1) = cdA m cs i ++ cs[i] := by
  unfold cdA
  rw [Nat.min_eq_left (by omega), Nat.min_eq_left (by omega), List.take_succ_eq_append_getElem hi, List.flatten_append]
  simp
theorem cdA_stay {m : Nat} {cs : List (List Int)} {i : Nat} (h : m ≤ i) : cdA m cs i = cdA m cs m := by
  unfold cdA
  rw [Nat.min_eq_right h, Nat.min_self]
theorem cdS_ok {m K : Nat} {cs : List (List Int)} {i : Nat} (hm : m ≤ 1000) (hK : K ≤ 1000) (h : (cdA m cs i).length ≤ 16777216) (h2 : m ≤ i → (cdA m cs m).length ≤ 16777216) : (cdS m K cs i).ok := by
  unfold cdS
  split
  · next hi =>
    refine ok_of ⟨Nat.zero_le _, Nat.le_refl _, h, by simp, by simp, fun a ha => ?_⟩
    simp only [List.mem_cons, List.not_mem_nil, or_false] at ha
    subst ha
    exact ⟨by dsimp only; omega, by dsimp only; omega, by dsimp only; omega, by dsimp only; omega⟩
  · next hi =>
    have := h2 (by omega)
    exact ok_of ⟨by dsimp only; rw [List.length_take]; omega, Nat.le_refl _, by dsimp only; rw [List.length_take]; omega, by simp, by simp, fun a ha => absurd ha List.not_mem_nil⟩
theorem cdS_full {m K : Nat} {cs : List (List Int)} {i : Nat} (h : i < m) {c : List Int} (hf : 16777216 < (cdA m cs i).length + c.length) : (cdS m K cs i).append 0 c = (cdS m K cs i, 52) := by
  unfold PM.append
  rw [if_neg (by unfold badF; omega), if_neg (by unfold cdS; rw [if_pos h]; simp), if_pos (show 16777216 < ((cdS m K cs i).all 0).length + c.length by unfold cdS; rw [if_pos h]; exact hf)]
theorem cdS_app {m K : Nat} {cs : List (List Int)} {i : Nat} (h : i < m) {c : List Int} (hf : ¬ 16777216 < (cdA m cs i).length + c.length) :
    (cdS m K cs i).append 0 c = (⟨cdA m cs i ++ c, 0, [], 0, [(((m - i : Nat) : Int), (K : Int))], false, (i : Int)⟩ : PM).fin id := by
  unfold PM.append
  rw [if_neg (by unfold badF; omega), if_neg (by unfold cdS; rw [if_pos h]; simp), if_neg (show ¬ 16777216 < ((cdS m K cs i).all 0).length + c.length by unfold cdS; rw [if_pos h]; exact hf)]
  unfold cdS
  rw [if_pos h]
  rfl
theorem cdS_go {m K : Nat} {cs : List (List Int)} {i : Nat} (hm : m ≤ 1000) (h : i + 1 < m) (hi : i < cs.length) (hf : ¬ 16777216 < (cdA m cs i).length + cs[i].length) : (cdS m K cs i).append 0 cs[i] = (cdS m K cs (i + 1), 0) := by
  rw [cdS_app (by omega) hf]
  have hw : wrap64 ((i : Int) + 1) = ((i + 1 : Nat) : Int) := by unfold wrap64; omega
  unfold PM.fin PM.write
  dsimp only
  rw [if_pos (by rw [decide_eq_true_eq]; omega), hw]
  unfold cdS
  rw [if_pos h, cdA_succ (by omega) hi, show ((m - i : Nat) : Int) - 1 = ((m - (i + 1) : Nat) : Int) by omega]
  rfl
theorem cdS_fall {m K : Nat} {cs : List (List Int)} {i : Nat} (hm : m ≤ 1000) (h : i + 1 = m) (hi : i < cs.length) (hf : ¬ 16777216 < (cdA m cs i).length + cs[i].length) : (cdS m K cs i).append 0 cs[i] = (cdS m K cs (i + 1), 51) := by
  rw [cdS_app (by omega) hf]
  have hw : wrap64 ((i : Int) + 1) = (m : Int) := by unfold wrap64; omega
  unfold PM.fin PM.write
  dsimp only
  rw [if_neg (by rw [decide_eq_true_eq]; omega), hw]
  unfold cdS
  rw [if_neg (by omega)]
  have e : cdA m cs m = cdA m cs i ++ cs[i] := by rw [← cdA_succ (by omega) hi, h]
  rw [e]
  simp [PM.fall, PM.fk, PM.f0, PM.f1]
theorem cdS_down {m K : Nat} {cs : List (List Int)} {i : Nat} (h : m ≤ i) (c : List Int) : (cdS m K cs i).append 0 c = (cdS m K cs (i + 1), 51) := by
  unfold PM.append
  rw [if_neg (by unfold badF; omega), if_pos (by unfold cdS; rw [if_neg (by omega)])]
  unfold cdS
  rw [if_neg (by omega), if_neg (by omega)]
theorem most_calls (a b : Int) (W : World) : Calls Try.prog 16 #[.int .i64 a, .int .i64 b] W fun e W' => e = .returned (.int .i64 (if a < b then a else b)) ∧ W = W' := by
  by_cases h : a < b
  · have d : decide (a < b) = true := decide_eq_true h
    rw [if_pos h]
    go_enter Try.func16, Try.ntmps16
    go_wp2
    go_ret
    exact ⟨rfl, rfl⟩
  · have d : decide (a < b) = false := decide_eq_false h
    rw [if_neg h]
    go_enter Try.func16, Try.ntmps16
    go_wp2
    go_ret
    exact ⟨rfl, rfl⟩
theorem Dk.grown {W w w' : World} {o : Nat → Prop} {g : Nat} {p : PM} (h : Dk W w o g p) {row : Option Nat} (hg : w.grownBy w' row) (hr : ∀ k, row = some k → ¬ o k ∧ W.heap.size ≤ k) : Dk W w' o g p := by
  have hu : Upd w w' (fun k => row = some k) := (Upd.refl _ _).grown hg (fun k hk _ => hk)
  exact ⟨h.rep.upd hu (fun k hk _ he => (hr k he).1 hk), fun k hk => Nat.lt_of_lt_of_le (h.lt k hk) hg.size, h.lo, hu.below h.below (fun k hk => (hr k hk).2) h.bw⟩
theorem chunk_at {w : World} {A : Option Addr} {n : Nat} {xs : List (List Int)} (h : Kd.C (Kd.slice 5 By) w A n xs) (i : Nat) (hi : i < xs.length) : ∃ ad A0 c0, A = some ad ∧ w.cell? (ad.add i) = some (.slice A0 xs[i].length c0) ∧ xs[i].length ≤ c0 ∧ Kd.C By w A0 xs[i].length xs[i] := by
  obtain ⟨ad, c, e, _, hK, hc0⟩ := Kd.C_get h ([] : List Int) (i : Int) (by omega) (by rw [← Kd.C_len h]; omega)
  rw [Int.toNat_natCast, List.getD_eq_getElem?_getD, List.getElem?_eq_getElem hi] at hK
  have hc : ∀ j u, c[j]? = some u → w.cell? (ad.add (i * 1 + j)) = some u := by rw [Int.toNat_natCast] at hc0; exact hc0
  obtain ⟨A0, c0, rfl, l0, g0⟩ := hK
  exact ⟨ad, A0, c0, e, by have hq := hc 0 _ rfl; rwa [Nat.mul_one, Nat.add_zero] at hq, l0, g0⟩
theorem row_step {W w w' : World} {o : Nat → Prop} {v : Value} {l : List Int} (h : Kd.R By 5 w W.heap.size (fun k => ¬ o k) v l) (hu : Upd w w' o) :
    Kd.R By 5 w' W.heap.size (fun k => ¬ ((o k ∨ w.heap.size ≤ k) ∧ W.heap.size ≤ k ∧ k < w'.heap.size)) v l :=
  Kd.R_mono (Kd.R_step (Kd.R_bound h) (fun k hk hlt => hu.block k hlt hk.1)) (fun k hk hn => by
    have h1 := hk.2.2.1
    rcases hn.1 with h2 | h2
    · exact hk.1 h2
    · omega)
end Go.Proofs.Yticokogggepfoaa.D
namespace Go.Proofs.Yticokogggepfoaa.D
open Go.RowKit Go.Proofs.YticokogggepfoaaW.PrintWords Go.Proofs.YticokogggepfoaaW.PrintLast Go.Proofs.YticokogggepfoaaW.PrintMore Go.Proofs.Yticokogggepfoaa.G
attribute [local go_sem] max2_int min2_int max_two min_two max_three min_three max_four min_four
set_option linter.unusedVariables false
set_option linter.unusedSimpArgs false
set_option maxRecDepth 100000
def ok1 (a k : Int) (n : Nat) : Prop := 1 ≤ a ∧ a ≤ 1000 ∧ 0 ≤ k ∧ k ≤ 1000 ∧ n ≤ 1000
theorem countdown_bad (a k : Int) (A : Option Addr) (n c : Nat) (h : ¬ ok1 a k n) (W : World) : Calls Try.prog 3 #[.int .i64 a, .int .i64 k, .slice A n c] W fun e W' => e = .returned (.bool true) ∧ Below W.heap.size W W' := by
  unfold ok1 at h
  by_cases b1 : a < 1
  · have d1 : decide (a < 1) = true := decide_eq_true b1
    clear h b1
    go_enter Try.func3, Try.ntmps3
    go_wp2_with (go_at_call 11; (with_reducible refine (works_calls _).mono ?_); rintro e w' ⟨rfl, hb⟩)
    go_ret
    exact ⟨rfl, hb⟩
  have d1 : decide (a < 1) = false := decide_eq_false b1
  by_cases b2 : 1000 < a
  · have d2 : decide (1000 < a) = true := decide_eq_true b2
    clear h b1 b2
    go_enter Try.func3, Try.ntmps3
    go_wp2_with (go_at_call 11; (with_reducible refine (works_calls _).mono ?_); rintro e w' ⟨rfl, hb⟩)
    go_ret
    exact ⟨rfl, hb⟩
  have d2 : decide (1000 < a) = false := decide_eq_false b2
  by_cases b3 : k < 0
  · have d3 : decide (k < 0) = true := decide_eq_true b3
    clear h b1 b2 b3
    go_enter Try.func3, Try.ntmps3
    go_wp2_with (go_at_call 11; (with_reducible refine (works_calls _).mono ?_); rintro e w' ⟨rfl, hb⟩)
    go_ret
    exact ⟨rfl, hb⟩
  have d3 : decide (k < 0) = false := decide_eq_false b3
  by_cases b4 : 1000 < k
  · have d4 : decide (1000 < k) = true := decide_eq_true b4
    clear h b1 b2 b3 b4
    go_enter Try.func3, Try.ntmps3
    go_wp2_with (go_at_call 11; (with_reducible refine (works_calls _).mono ?_); rintro e w' ⟨rfl, hb⟩)
    go_ret
    exact ⟨rfl, hb⟩
  have d4 : decide (1000 < k) = false := decide_eq_false b4
  have b5 : 1000 < n := by omega
  have d5 : decide ((1000 : Int) < (n : Int)) = true := decide_eq_true (by omega)
  clear h b1 b2 b3 b4 b5
  go_enter Try.func3, Try.ntmps3
  go_wp2_with (go_at_call 11; (with_reducible refine (works_calls _).mono ?_); rintro e w' ⟨rfl, hb⟩)
  go_ret
  exact ⟨rfl, hb⟩
set_option maxHeartbeats 4000000 in
theorem countdown_good (m K : Nat) (A : Option Addr) (c : Nat) (cs : List (List Int)) (h1 : 1 ≤ m) (h2 : m ≤ 1000) (h3 : K ≤ 1000) (h4 : cs.length ≤ 1000) (W : World) (hC : Kd.C (Kd.slice 5 By) W A cs.length cs) (hl : ∀ x ∈ cs, x.length ≤ 140737488351232) :
    Calls Try.prog 3 #[.int .i64 (m : Int), .int .i64 (K : Int), .slice A cs.length c] W fun e W' => e = .returned (.bool true) ∧ Below W.heap.size W W' := by
  have HC := Aside0.mk hC
  have HL := Aside0.mk hl
  have harm : q0.arm m K = (cdS m K cs 0, 0) := by
    unfold PM.arm
    rw [if_neg (by unfold badA; omega), if_neg (by simp [q0])]
    unfold cdS
    rw [if_pos (by omega)]
    simp [q0, cdA]
  have HARM := Aside0.mk harm
  have d1 : decide ((m : Int) < 1) = false := decide_eq_false (by omega)
  have d2 : decide ((1000 : Int) < (m : Int)) = false := decide_eq_false (by omega)
  have d3 : decide ((K : Int) < 0) = false := decide_eq_false (by omega)
  have d4 : decide ((1000 : Int) < (K : Int)) = false := decide_eq_false (by omega)
  have d5 : decide ((1000 : Int) < (cs.length : Int)) = false := decide_eq_false (by omega)
  clear hC hl harm
  go_enter Try.func3, Try.ntmps3
  go_wp2_with fail
  refine (new_calls (B := W.heap.size) W (Nat.le_refl _)).mono ?_
  rintro e w1 ⟨rfl, hr, hb⟩
  have D1 : Aside0 (Dk W w1 _ W.heap.size q0) := ⟨dk_new (Below.refl _ _) hr hb⟩
  clear hr hb
  go_wp2_with fail
  refine (arm_calls D1.out.rep q0_ok D1.out.bw m K).mono ?_
  rintro e w2 ⟨rfl, hr, hu⟩
  rw [HARM.out] at hr ⊢
  have D2 := Aside0.mk (D1.out.step hr hu)
  clear hr hu d1 d2 d3 d4 d5
  go_wp2_with fail
  go_loopw [8, 9] (fun v i wr => ∃ j : Nat, j ≤ cs.length ∧ i = .int .i64 (j : Int) ∧ ∃ o : Nat → Prop, Aside0 (Dk W wr o W.heap.size (cdS m K cs j)) ∧ Aside0 (Kd.R By 5 wr W.heap.size (fun k => ¬ o k) v (cdA m cs j)) ∧ (cdA m cs j).length ≤ 16777216) (fun _ i _ => cs.length - (intOf i).toNat)
  case atStart =>
    exact ⟨0, Nat.zero_le _, rfl, _, D2, ⟨by simpa [cdA] using Kd.R_nil By 5 w2 W.heap.size _⟩, by simp [cdA]⟩
  case round =>
    obtain ⟨j, hj, rfl, o, HD, HA, hfit⟩ := hrel
    obtain ⟨Av, nv, rfl, hnv⟩ := Kd.R_slice_len HA.out
    have HOK := Aside0.mk (cdS_ok (K := K) h2 h3 hfit (fun h => by rwa [cdA_stay h] at hfit))
    by_cases hjn : j < cs.length
    · obtain ⟨ad, A0, c0, rfl, hx0, hc0, hCi⟩ := chunk_at HC.out j hjn
      have hli := HL.out cs[j] (List.getElem_mem hjn)
      have hidx : (j : Int) < (cs.length : Int) := by omega
      obtain ⟨ci, hci⟩ : ∃ ci, ci = cs[j] := ⟨_, rfl⟩
      have HCJ := Aside0.mk hci
      rw [← hci] at hx0 hc0 hCi hli
      have HC0 := Aside0.mk hCi
      have HX0 := Aside0.mk hx0
      have hx := (HD.out.below.cell (World.block_lt_of_cell? W _ hx0)).trans hx0
      clear hCi hci hx0
      go_wp2_with fail
      refine (lcopied_calls (Kd.C_below HC0.out HD.out.below) hc0 (by omega)).mono ?_
      rintro e w3 ⟨v, rfl, hf⟩
      obtain ⟨B1, b1, rfl, hb1⟩ := Kd.R_slice_len hf.1
      have D3 := Aside0.mk (HD.out.keep hf.2)
      have HF := Aside0.mk hf
      have hA3 : Kd.R By 5 w3 W.heap.size (fun k => ¬ o k) (.slice Av (cdA m cs j).length nv) (cdA m cs j) := Kd.R_step HA.out (fun k _ hlt => hf.2.block k hlt)
      have HA3 := Aside0.mk hA3
      clear hf hb1 hA3 hx
      go_wp2_with fail
      refine (append_calls D3.out.rep HOK.out D3.out.bw 0 _ _ ci HF.out.reads (by omega)).mono ?_
      rintro e w4 ⟨rfl, hr, hu⟩
      by_cases hjm : m ≤ j
      · rw [cdS_down hjm] at hr ⊢
        have D4 := Aside0.mk (D3.out.step hr hu)
        have HA4 := Aside0.mk (row_step HA3.out hu)
        have g1 : decide ((j : Int) < (m : Int)) = false := decide_eq_false (by omega)
        have g2 : decide ((j : Int) < (m : Int) - 1) = false := decide_eq_false (by omega)
        have g3 : decide ((m : Int) - 1 ≤ (j : Int)) = true := decide_eq_true (by omega)
        have HST := Aside0.mk (show cdA m cs (j + 1) = cdA m cs j by rw [cdA_stay (i := j + 1) (by omega), cdA_stay hjm])
        clear hr hu
        go_wp2_with fail
        go_roundw
        case rel => exact ⟨j + 1, by omega, by go_num, _, D4, ⟨by rw [HST.out]; exact HA4.out⟩, by rw [HST.out]; exact hfit⟩
        case measure => simp [intOf]; omega
      · by_cases hfull : 16777216 < (cdA m cs j).length + ci.length
        · rw [cdS_full (by omega) hfull] at hr ⊢
          have D4 := Aside0.mk (D3.out.step hr hu)
          have hx4 := (D4.out.below.cell (World.block_lt_of_cell? W _ HX0.out)).trans HX0.out
          have g1 : decide ((16777216 : Int) < ((cdA m cs j).length : Int) + (ci.length : Int)) = true := decide_eq_true (by omega)
          have hjm' : j < m := by omega
          clear hr hu
          go_wp2_with fail
          go_ret
          exact ⟨rfl, D4.out.below⟩
        by_cases hlast : j + 1 = m
        · rw [show (cdS m K cs j).append 0 ci = (cdS m K cs (j + 1), 51) from (by rw [HCJ.out]; exact cdS_fall h2 hlast hjn (by rw [← HCJ.out]; exact hfull))] at hr ⊢
          have D4 := Aside0.mk (D3.out.step hr hu)
          have HA4 := Aside0.mk (row_step HA3.out hu)
          have HLA := Aside0.mk (show ((cdA m cs j).length + ci.length) * 1 ≤ 140737488355328 by omega)
          have hx4 := (D4.out.below.cell (World.block_lt_of_cell? W _ HX0.out)).trans HX0.out
          have g1 : decide ((16777216 : Int) < ((cdA m cs j).length : Int) + (ci.length : Int)) = false := decide_eq_false (by omega)
          have hjm' : j < m := by omega
          have g2 : decide ((j : Int) < (m : Int) - 1) = false := decide_eq_false (by omega)
          have g3 : decide ((m : Int) - 1 ≤ (j : Int)) = true := decide_eq_true (by omega)
          have HFU := Aside0.mk (show (cdA m cs (j + 1)).length ≤ 16777216 by rw [cdA_succ hjm' hjn, ← HCJ.out, List.length_append]; omega)
          have HSU := Aside0.mk (show cdA m cs j ++ ci = cdA m cs (j + 1) by rw [cdA_succ hjm' hjn, ← HCJ.out])
          clear hr hu
          go_wp2_with ((refine gate_builtin (b := .append) (xs := #[.tmp 69, .tmp 73]) rfl ?_); at_builtin; refine Kd.R_append_rows By (Rr := Kd.K By w4) (w0 := w4) W.heap.size rfl (.tmp 69) (.tmp 73) 28 5 (.int .u8 0) 1 rfl Try.underlying28 G.info5 rfl (by decide) (by decide) (.slice Av (cdA m cs j).length nv) (cdA m cs j) ci A0 ci.length c0 (fun k => ¬ ((o k ∨ w3.heap.size ≤ k) ∧ W.heap.size ≤ k ∧ k < w4.heap.size)) (fun _ => False) rfl rfl HA4.out (Kd.C_below HC0.out D4.out.below) (fun _ _ hk => hk) (fun _ hk => hk.elim) (fun k hk hn => by have := hn.2.2; omega) (Below.refl _ _) D4.out.bw HLA.out ?_; intro u1 w5 hr1 hb1 hg1 hat1; obtain ⟨A2, n2, rfl, hn2⟩ := Kd.R_slice_len hr1; have D5 := Aside0.mk (D4.out.grown hg1 (fun k hk => ⟨fun ho => HA4.out.1 k hk ho, Kd.R_base HA4.out k hk⟩)); have HA5 := Aside0.mk hr1; clear hr1 hb1 hg1 hat1 hn2)
          go_roundw
          case rel => exact ⟨j + 1, by omega, by go_num, _, D5, ⟨by have h_ := HA5.out; rw [HSU.out] at h_; simpa [← HSU.out] using h_⟩, HFU.out⟩
          case measure => simp [intOf]; omega
        · rw [show (cdS m K cs j).append 0 ci = (cdS m K cs (j + 1), 0) from (by rw [HCJ.out]; exact cdS_go h2 (by omega) hjn (by rw [← HCJ.out]; exact hfull))] at hr ⊢
          have D4 := Aside0.mk (D3.out.step hr hu)
          have HA4 := Aside0.mk (row_step HA3.out hu)
          have HLA := Aside0.mk (show ((cdA m cs j).length + ci.length) * 1 ≤ 140737488355328 by omega)
          have hx4 := (D4.out.below.cell (World.block_lt_of_cell? W _ HX0.out)).trans HX0.out
          have g1 : decide ((16777216 : Int) < ((cdA m cs j).length : Int) + (ci.length : Int)) = false := decide_eq_false (by omega)
          have hjm' : j < m := by omega
          have g2 : decide ((j : Int) < (m : Int) - 1) = true := decide_eq_true (by omega)
          have g3 : decide ((m : Int) - 1 ≤ (j : Int)) = false := decide_eq_false (by omega)
          have HFU := Aside0.mk (show (cdA m cs (j + 1)).length ≤ 16777216 by rw [cdA_succ hjm' hjn, ← HCJ.out, List.length_append]; omega)
          have HSU := Aside0.mk (show cdA m cs j ++ ci = cdA m cs (j + 1) by rw [cdA_succ hjm' hjn, ← HCJ.out])
          clear hr hu
          go_wp2_with ((refine gate_builtin (b := .append) (xs := #[.tmp 69, .tmp 73]) rfl ?_); at_builtin; refine Kd.R_append_rows By (Rr := Kd.K By w4) (w0 := w4) W.heap.size rfl (.tmp 69) (.tmp 73) 28 5 (.int .u8 0) 1 rfl Try.underlying28 G.info5 rfl (by decide) (by decide) (.slice Av (cdA m cs j).length nv) (cdA m cs j) ci A0 ci.length c0 (fun k => ¬ ((o k ∨ w3.heap.size ≤ k) ∧ W.heap.size ≤ k ∧ k < w4.heap.size)) (fun _ => False) rfl rfl HA4.out (Kd.C_below HC0.out D4.out.below) (fun _ _ hk => hk) (fun _ hk => hk.elim) (fun k hk hn => by have := hn.2.2; omega) (Below.refl _ _) D4.out.bw HLA.out ?_; intro u1 w5 hr1 hb1 hg1 hat1; obtain ⟨A2, n2, rfl, hn2⟩ := Kd.R_slice_len hr1; have D5 := Aside0.mk (D4.out.grown hg1 (fun k hk => ⟨fun ho => HA4.out.1 k hk ho, Kd.R_base HA4.out k hk⟩)); have HA5 := Aside0.mk hr1; clear hr1 hb1 hg1 hat1 hn2)
          go_roundw
          case rel => exact ⟨j + 1, by omega, by go_num, _, D5, ⟨by have h_ := HA5.out; rw [HSU.out] at h_; simpa [← HSU.out] using h_⟩, HFU.out⟩
          case measure => simp [intOf]; omega
    · obtain rfl : j = cs.length := by omega
      have g0 : decide ((cs.length : Int) < (cs.length : Int)) = false := decide_eq_false (by omega)
      go_wp2_with fail
      refine (most_calls _ _ _).mono ?_
      rintro e w3 ⟨rfl, rfl⟩
      by_cases hnm : cs.length < m
      · have hp : cdS m K cs cs.length = ⟨cdA m cs cs.length, 0, [], 0, [(((m - cs.length : Nat) : Int), (K : Int))], false, (cs.length : Int)⟩ := by unfold cdS; rw [if_pos hnm]
        rw [if_neg (by omega)]
        go_wp2_with fail
        refine (dur_calls HD.out.rep HOK.out 0).mono ?_
        rintro e w4 ⟨v, rfl, hf⟩
        have hdur : (cdS m K cs cs.length).dur 0 = ([], 0) := by rw [hp]; rfl
        have hdn : (cdS m K cs cs.length).dn = false := by rw [hp]
        have hwr : (cdS m K cs cs.length).wr = (cs.length : Int) := by rw [hp]
        rw [hdur] at hf ⊢
        obtain ⟨B1, b1, rfl, hb1⟩ := Kd.R_slice_len hf.1
        have D4 := Aside0.mk (HD.out.keep hf.2)
        have HDN := Aside0.mk hdn
        have HWR := Aside0.mk hwr
        have g1 : decide ((m : Int) ≤ (cs.length : Int)) = false := decide_eq_false (by omega)
        have g2 : decide ((cs.length : Int) < (m : Int)) = true := decide_eq_true (by omega)
        clear hf hp hdur hdn hwr hb1
        go_wp2_with fail
        refine (down_calls D4.out.rep).mono ?_
        rintro e w5 ⟨rfl, rfl⟩
        rw [HDN.out]
        go_wp2_with fail
        refine (writes_calls D4.out.rep).mono ?_
        rintro e w6 ⟨rfl, rfl⟩
        rw [HWR.out]
        go_wp2_with fail
        go_ret
        exact ⟨rfl, D4.out.below⟩
      · obtain ⟨L, hL⟩ : ∃ L, L = cdA m cs m := ⟨_, rfl⟩
        have hLn : cdA m cs cs.length = L := by rw [hL]; exact cdA_stay (by omega)
        obtain ⟨q, hq⟩ : ∃ q, q = min L.length K := ⟨_, rfl⟩
        have hp : cdS m K cs cs.length = ⟨L.take q, q, [], 0, [], true, (m : Int)⟩ := by unfold cdS; rw [if_neg hnm, ← hL, ← hq]
        have hmn : (if (m : Int) < (cs.length : Int) then (m : Int) else (cs.length : Int)) = (m : Int) := by split <;> omega
        rw [hmn]
        rw [hLn] at HA hnv ⊢
        have hql : (L.take q).length = q := by rw [List.length_take]; omega
        obtain ⟨T, hT⟩ : ∃ T, T = L.take q := ⟨_, rfl⟩
        have hdur : (cdS m K cs cs.length).dur 0 = (T, 0) := by
          rw [hp]
          show ((L.take q).take q, (0 : Int)) = (T, 0)
          rw [List.take_of_length_le (by omega), hT]
        have HLx := Aside0.mk hL
        have HLnx := Aside0.mk hLn
        have HQx := Aside0.mk hq
        have HTx := Aside0.mk hT
        have HQLx := Aside0.mk hql
        have HPx := Aside0.mk hp
        have HDx := Aside0.mk hdur
        clear hL hLn hq hT hql hp hdur hmn
        go_wp2_with fail
        refine (dur_calls HD.out.rep HOK.out 0).mono ?_
        rintro e w4 ⟨v, rfl, hf⟩
        have hdn : (cdS m K cs cs.length).dn = true := by rw [HPx.out]
        have hwr : (cdS m K cs cs.length).wr = (m : Int) := by rw [HPx.out]
        have hdur := HDx.out
        have hq := HQx.out
        have hql := HQLx.out
        have hT := HTx.out
        rw [hdur] at hf ⊢
        obtain ⟨B1, b1, rfl, hb1⟩ := Kd.R_slice_len hf.1
        have D4 := Aside0.mk (HD.out.keep hf.2)
        have HDN := Aside0.mk hdn
        have HWR := Aside0.mk hwr
        have HF := Aside0.mk hf
        have HB1 := Aside0.mk hb1
        have hA4 : Kd.R By 5 w4 W.heap.size (fun k => ¬ o k) (.slice Av L.length nv) L := Kd.R_step HA.out (fun k _ hlt => hf.2.block k hlt)
        have HA4 := Aside0.mk hA4
        obtain ⟨i0_, hi0_, _, _, _⟩ := info_parts G.info5
        have hcut := cut_to (P := Try.prog) 28 5 .i64 Try.underlying28 hi0_ Av L.length nv (q : Int) (by omega) (by omega) hnv
        rw [Int.toNat_natCast] at hcut
        have HCUT := Aside0.mk hcut
        have HTQ := Aside0.mk (show T.length = q by rw [hT]; exact hql)
        have HTC := Aside0.mk (show Kd.C By w4 Av T.length T from (by rw [hT]; exact Kd.C_take (m := q) (Kd.R_reads' hA4).2.2 (by omega)))
        have HMO := Aside0.mk (show (if (K : Int) < (L.length : Int) then (K : Int) else (L.length : Int)) = (q : Int) by split <;> omega)
        have HQN := Aside0.mk (show q ≤ nv ∧ q ≤ 1000 by omega)
        have g1 : decide ((m : Int) ≤ (cs.length : Int)) = true := decide_eq_true (by omega)
        have g2 : decide ((cs.length : Int) < (m : Int)) = false := decide_eq_false (by omega)
        clear hf hdur hdn hwr hb1 hA4 hi0_ hcut hq hql hT
        go_wp2_with fail
        refine (down_calls D4.out.rep).mono ?_
        rintro e w5 ⟨rfl, rfl⟩
        rw [HDN.out]
        go_wp2_with fail
        refine (writes_calls D4.out.rep).mono ?_
        rintro e w6 ⟨rfl, rfl⟩
        rw [HWR.out]
        go_wp2_with fail
        refine (most_calls _ _ _).mono ?_
        rintro e w7 ⟨rfl, rfl⟩
        rw [HMO.out]
        have hcut := HCUT.out
        go_wp2_with fail
        have hTQ := HTQ.out
        rw [← hTQ]
        refine (equal_calls (A := B1) (l := T) (r := T) HF.out.reads HB1.out HTC.out (by rw [hTQ]; exact HQN.out.1) (by rw [hTQ]; have := HQN.out.2; omega)).mono ?_
        rintro e w8 ⟨rfl, hb⟩
        rw [decide_eq_true rfl]
        go_wp2_with fail
        go_ret
        exact ⟨rfl, D4.out.below.trans (hb.mono D4.out.bw)⟩
end Go.Proofs.Yticokogggepfoaa.D
