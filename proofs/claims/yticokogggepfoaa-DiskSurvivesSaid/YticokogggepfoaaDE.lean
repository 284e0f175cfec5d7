/- The program's disk: Read, Durable, Arm. No condition but what the disk holds. -/
import Derived.Test.YticokogggepfoaaDD
namespace Go.Proofs.Yticokogggepfoaa.D
open Go.RowKit Go.Proofs.YticokogggepfoaaW.PrintWords Go.Proofs.YticokogggepfoaaW.PrintLast Go.Proofs.YticokogggepfoaaW.PrintMore
attribute [local go_sem] max2_int min2_int max_two min_two max_three min_three max_four min_four
set_option linter.unusedVariables false
set_option linter.unusedSimpArgs false
set_option maxRecDepth 100000
def PM.all (p : PM) (n : Int) : List Int := if n = 0 then p.b0 else p.b1
def PM.sync (p : PM) (n : Int) : Nat := if n = 0 then p.s0 else p.s1
def badF (n : Int) : Prop := n < 0 ∨ 2 ≤ n
instance (n : Int) : Decidable (badF n) := inferInstanceAs (Decidable (n < 0 ∨ 2 ≤ n))
def PM.read (p : PM) (n : Int) : List Int × Int := if badF n then ([], 50) else if p.dn = true then ([], 51) else (p.all n, 0)
def PM.dur (p : PM) (n : Int) : List Int × Int := if badF n then ([], 50) else ((p.all n).take (p.sync n), 0)
theorem fresh_nil (W : World) : Fresh W [] (.slice none 0 0) W := ⟨Kd.R_nil _ _ _ _ _, Below.refl _ _⟩
theorem badF_not {n : Int} (h : ¬ badF n) : n = 0 ∨ n = 1 := by unfold badF at h; omega
section
variable {W : World} {B g : Nat} {ok : Nat → Prop} {p : PM}
theorem read_calls (h : Rep W B ok g p) (hp : p.ok) (n : Int) : Calls Try.prog 31 #[.pointer (some ⟨g, 0, none⟩), .int .i64 n] W fun e W' => ∃ v, e = .returned (.tuple #[v, .int .i64 (p.read n).2]) ∧ Fresh W (p.read n).1 v W' := by
  obtain ⟨v0, v1, va, h⟩ := h
  by_cases hb : badF n
  · have e : p.read n = ([], 50) := by unfold PM.read; rw [if_pos hb]
    rw [e]
    have HB := Aside0.mk (show n < 0 ∨ 2 ≤ n from hb)
    clear h hp hb e
    go_enter Try.func31, Try.ntmps31
    go_wp2_with (go_at_call 32; (with_reducible refine (file_bad _ _ HB.out _).mono ?_); rintro e w' ⟨rfl, rfl⟩)
    go_ret2
    exact ⟨_, rfl, fresh_nil _⟩
  have hn := badF_not hb
  cases hd : p.dn with
  | true =>
    have e : p.read n = ([], 51) := by unfold PM.read; rw [if_neg hb, if_pos hd]
    rw [e]
    have H := Aside0.mk h
    have HD := Aside0.mk hd
    have HN := Aside0.mk hn
    clear h hp hb e hd hn
    go_enter Try.func31, Try.ntmps31
    go_wp2_with (go_at_call 32; (with_reducible refine (file_down _ (by have := HN.out; omega) (by have := HN.out; omega) H.out HD.out).mono ?_); rintro e w' ⟨rfl, rfl⟩)
    go_ret2
    exact ⟨_, rfl, fresh_nil _⟩
  | false =>
    have e : p.read n = (p.all n, 0) := by unfold PM.read; rw [if_neg hb, if_neg (by rw [hd]; simp)]
    rw [e]
    obtain ⟨c0, c1, c2, c3, c4, c5, c6⟩ := dc_cells h.blk
    have H := Aside0.mk h
    have HD := Aside0.mk hd
    obtain ⟨A0, n0, rfl, hn0⟩ := Kd.R_slice_len h.r0
    obtain ⟨A1, n1, rfl, hn1⟩ := Kd.R_slice_len h.r1
    have hC0 := Aside0.mk (Kd.R_reads' h.r0).2.2
    have hC1 := Aside0.mk (Kd.R_reads' h.r1).2.2
    have HP := Aside0.mk hp
    clear h hb e hd c1 c3 c4 c5 c6 hp
    rcases hn with rfl | rfl
    · show Calls Try.prog 31 #[.pointer (some ⟨g, 0, none⟩), .int .i64 0] W fun e W' => ∃ v, e = .returned (.tuple #[v, .int .i64 0]) ∧ Fresh W p.b0 v W'
      go_enter Try.func31, Try.ntmps31
      go_wp2_with (first | (go_at_call 32; (with_reducible refine (file_up 0 (by omega) (by omega) H.out HD.out).mono ?_); rintro e w' ⟨rfl, rfl⟩) | (go_at_call 35; (with_reducible refine (fresh_calls A0 n0 p.b0 _ hC0.out (by have := HP.out.l0; omega)).mono ?_); rintro e w' ⟨v, rfl, hf⟩))
      go_ret2
      exact ⟨_, rfl, hf⟩
    · show Calls Try.prog 31 #[.pointer (some ⟨g, 0, none⟩), .int .i64 1] W fun e W' => ∃ v, e = .returned (.tuple #[v, .int .i64 0]) ∧ Fresh W p.b1 v W'
      go_enter Try.func31, Try.ntmps31
      go_wp2_with (first | (go_at_call 32; (with_reducible refine (file_up 1 (by omega) (by omega) H.out HD.out).mono ?_); rintro e w' ⟨rfl, rfl⟩) | (go_at_call 35; (with_reducible refine (fresh_calls A1 n1 p.b1 _ hC1.out (by have := HP.out.l1; omega)).mono ?_); rintro e w' ⟨v, rfl, hf⟩))
      go_ret2
      exact ⟨_, rfl, hf⟩
theorem Fresh.lower {W W1 W2 : World} {l : List Int} {v : Value} (h : Fresh W1 l v W2) (hb : Below W.heap.size W W1) : Fresh W l v W2 := ⟨Kd.R_lower h.1 hb.size, hb.trans (h.2.mono hb.size)⟩
theorem fresh_calls' (A : Option Addr) (c n : Nat) (l : List Int) (W : World) (hn : l.length = n) (hr : Kd.C By W A l.length l) (hl : l.length ≤ 140737488355328) :
    Calls Try.prog 35 #[.slice A n c] W fun e W' => ∃ v, e = .returned v ∧ Fresh W l v W' := by subst hn; exact fresh_calls A c l W hr hl
theorem dur_calls (h : Rep W B ok g p) (hp : p.ok) (n : Int) : Calls Try.prog 17 #[.pointer (some ⟨g, 0, none⟩), .int .i64 n] W fun e W' => ∃ v, e = .returned (.tuple #[v, .int .i64 (p.dur n).2]) ∧ Fresh W (p.dur n).1 v W' := by
  obtain ⟨v0, v1, va, h⟩ := h
  by_cases hb : badF n
  · have e : p.dur n = ([], 50) := by unfold PM.dur; rw [if_pos hb]
    rw [e]
    rcases hb with hb | hb
    · have h2 : decide (n < 0) = true := decide_eq_true hb
      clear h hp e hb
      go_enter Try.func17, Try.ntmps17
      go_wp2
      go_ret2
      exact ⟨_, rfl, fresh_nil _⟩
    · have h2 : decide (n < 0) = false := decide_eq_false (by omega)
      have h3 : decide (2 ≤ n) = true := decide_eq_true hb
      clear h hp e hb
      go_enter Try.func17, Try.ntmps17
      go_wp2
      go_ret2
      exact ⟨_, rfl, fresh_nil _⟩
  have hn := badF_not hb
  have e : p.dur n = ((p.all n).take (p.sync n), 0) := by unfold PM.dur; rw [if_neg hb]
  rw [e]
  obtain ⟨c0, c1, c2, c3, c4, c5, c6⟩ := dc_cells h.blk
  obtain ⟨A0, n0, rfl, hn0⟩ := Kd.R_slice_len h.r0
  obtain ⟨A1, n1, rfl, hn1⟩ := Kd.R_slice_len h.r1
  have e0 : (p.b0.take p.s0).length = p.s0 := by rw [List.length_take]; have := hp.h0; omega
  have e1 : (p.b1.take p.s1).length = p.s1 := by rw [List.length_take]; have := hp.h1; omega
  have h0 := Kd.R_take h.r0 hp.h0
  have h1 := Kd.R_take h.r1 hp.h1
  have hC0 := (Kd.R_reads' h0).2.2
  have hC1 := (Kd.R_reads' h1).2.2
  obtain ⟨i0_, hi0_, _, _, _⟩ := info_parts G.info5
  have hcut0 := cut_to (P := Try.prog) 28 5 .i64 Try.underlying28 hi0_ A0 p.b0.length n0 (p.s0 : Int) (by omega) (by have := hp.h0; omega) hn0
  have hcut1 := cut_to (P := Try.prog) 28 5 .i64 Try.underlying28 hi0_ A1 p.b1.length n1 (p.s1 : Int) (by omega) (by have := hp.h1; omega) hn1
  rw [Int.toNat_natCast] at hcut0 hcut1
  have HC0 := Aside0.mk hC0
  have HC1 := Aside0.mk hC1
  have E0 := Aside0.mk e0
  have E1 := Aside0.mk e1
  have HP := Aside0.mk hp
  have h5 := Aside0.mk (below_alloc (Below.refl W.heap.size W) (.cells #[.slice A0 p.b0.length n0, .int .i64 p.s0] 55))
  have h6 := Aside0.mk (below_alloc (Below.refl W.heap.size W) (.cells #[.slice A1 p.b1.length n1, .int .i64 p.s1] 55))
  clear h hb e c4 c5 c6 hp h0 h1 hC0 hC1 hi0_ e0 e1
  rcases hn with rfl | rfl
  · show Calls Try.prog 17 #[.pointer (some ⟨g, 0, none⟩), .int .i64 0] W fun e W' => ∃ v, e = .returned (.tuple #[v, .int .i64 0]) ∧ Fresh W (p.b0.take p.s0) v W'
    clear hcut1 c2 c3
    go_enter Try.func17, Try.ntmps17
    go_wp2_with (go_at_call 35; (with_reducible refine (fresh_calls' A0 n0 p.s0 (p.b0.take p.s0) _ E0.out (Kd.C_below HC0.out h5.out) (by have := HP.out.h0; have := HP.out.l0; rw [List.length_take]; omega)).mono ?_); rintro e w' ⟨v, rfl, hf⟩)
    go_ret2
    exact ⟨_, rfl, hf.lower h5.out⟩
  · show Calls Try.prog 17 #[.pointer (some ⟨g, 0, none⟩), .int .i64 1] W fun e W' => ∃ v, e = .returned (.tuple #[v, .int .i64 0]) ∧ Fresh W (p.b1.take p.s1) v W'
    clear hcut0 c0 c1
    go_enter Try.func17, Try.ntmps17
    go_wp2_with (go_at_call 35; (with_reducible refine (fresh_calls' A1 n1 p.s1 (p.b1.take p.s1) _ E1.out (Kd.C_below HC1.out h6.out) (by have := HP.out.h1; have := HP.out.l1; rw [List.length_take]; omega)).mono ?_); rintro e w' ⟨v, rfl, hf⟩)
    go_ret2
    exact ⟨_, rfl, hf.lower h6.out⟩
end
end Go.Proofs.Yticokogggepfoaa.D
