/- One crash on a new disk, chunk by chunk: what the disk holds then. No condition but the lists' bulk. -/
import Derived.Test.YticokogggepfoaaLB
namespace Go.Proofs.Yticokogggepfoaa.D
open Go.RowKit Go.Proofs.YticokogggepfoaaW.PrintWords Go.Proofs.YticokogggepfoaaW.PrintLast Go.Proofs.YticokogggepfoaaW.PrintMore Go.Proofs.Yticokogggepfoaa.G
set_option linter.unusedVariables false
set_option linter.unusedSimpArgs false
def cdA (m : Nat) (cs : List (List Int)) (i : Nat) : List Int := (cs.take (min i m)).flatten
def cdS (m K : Nat) (cs : List (List Int)) (i : Nat) : PM :=
  if i < m then ⟨cdA m cs i, 0, [], 0, [(((m - i : Nat) : Int), (K : Int))], false, (i : Int)⟩
  else ⟨(cdA m cs m).take (min (cdA m cs m).length K), min (cdA m cs m).length K, [], 0, [], true, (m : Int)⟩
theorem cdA_succ {m : Nat} {cs : List (List Int)} {i : Nat} (h : i < m) (hi : i < cs.length) : cdA m cs (i + 1) = cdA m cs i ++ cs[i] := by
  unfold cdA
  rw [Nat.min_eq_left (by omega), Nat.min_eq_left (by omega), List.take_succ_eq_append_getElem hi, List.flatten_append]
  simp
theorem cdA_stay {m : Nat} {cs : List (List Int)} {i : Nat} (h : m ≤ i) : cdA m cs i = cdA m cs m := by
  unfold cdA
  rw [Nat.min_eq_right h, Nat.min_self]
theorem cdS_ok {m K : Nat} {cs : List (List Int)} {i : Nat} (hm : m ≤ 1000) (hK : K ≤ 1000) (h : (cdA m cs i).length ≤ 16777216) (h2 : m ≤ i → (cdA m cs m).length ≤ 16777216) : (cdS m K cs i).ok := by
  unfold cdS
  split
  · next hi =>
    refine ok_of ⟨Nat.zero_le _, Nat.le_refl _, h, by simp, by simp, fun a ha => ?_⟩
    simp only [List.mem_cons, List.not_mem_nil, or_false] at ha
    subst ha
    exact ⟨by dsimp only; omega, by dsimp only; omega, by dsimp only; omega, by dsimp only; omega⟩
  · next hi =>
    have := h2 (by omega)
    exact ok_of ⟨by dsimp only; rw [List.length_take]; omega, Nat.le_refl _, by dsimp only; rw [List.length_take]; omega, by simp, by simp, fun a ha => absurd ha List.not_mem_nil⟩
theorem cdS_full {m K : Nat} {cs : List (List Int)} {i : Nat} (h : i < m) {c : List Int} (hf : 16777216 < (cdA m cs i).length + c.length) : (cdS m K cs i).append 0 c = (cdS m K cs i, 52) := by
  unfold PM.append
  rw [if_neg (by unfold badF; omega), if_neg (by unfold cdS; rw [if_pos h]; simp), if_pos (show 16777216 < ((cdS m K cs i).all 0).length + c.length by unfold cdS; rw [if_pos h]; exact hf)]
theorem cdS_app {m K : Nat} {cs : List (List Int)} {i : Nat} (h : i < m) {c : List Int} (hf : ¬ 16777216 < (cdA m cs i).length + c.length) :
    (cdS m K cs i).append 0 c = (⟨cdA m cs i ++ c, 0, [], 0, [(((m - i : Nat) : Int), (K : Int))], false, (i : Int)⟩ : PM).fin id := by
  unfold PM.append
  rw [if_neg (by unfold badF; omega), if_neg (by unfold cdS; rw [if_pos h]; simp), if_neg (show ¬ 16777216 < ((cdS m K cs i).all 0).length + c.length by unfold cdS; rw [if_pos h]; exact hf)]
  unfold cdS
  rw [if_pos h]
  rfl
theorem cdS_go {m K : Nat} {cs : List (List Int)} {i : Nat} (hm : m ≤ 1000) (h : i + 1 < m) (hi : i < cs.length) (hf : ¬ 16777216 < (cdA m cs i).length + cs[i].length) : (cdS m K cs i).append 0 cs[i] = (cdS m K cs (i + 1), 0) := by
  rw [cdS_app (by omega) hf]
  have hw : wrap64 ((i : Int) + 1) = ((i + 1 : Nat) : Int) := by unfold wrap64; omega
  unfold PM.fin PM.write
  dsimp only
  rw [if_pos (by rw [decide_eq_true_eq]; omega), hw]
  unfold cdS
  rw [if_pos h, cdA_succ (by omega) hi, show ((m - i : Nat) : Int) - 1 = ((m - (i + 1) : Nat) : Int) by omega]
  rfl
theorem cdS_fall {m K : Nat} {cs : List (List Int)} {i : Nat} (hm : m ≤ 1000) (h : i + 1 = m) (hi : i < cs.length) (hf : ¬ 16777216 < (cdA m cs i).length + cs[i].length) : (cdS m K cs i).append 0 cs[i] = (cdS m K cs (i + 1), 51) := by
  rw [cdS_app (by omega) hf]
  have hw : wrap64 ((i : Int) + 1) = (m : Int) := by unfold wrap64; omega
  unfold PM.fin PM.write
  dsimp only
  rw [if_neg (by rw [decide_eq_true_eq]; omega), hw]
  unfold cdS
  rw [if_neg (by omega)]
  have e : cdA m cs m = cdA m cs i ++ cs[i] := by rw [← cdA_succ (by omega) hi, h]
  rw [e]
  simp [PM.fall, PM.fk, PM.f0, PM.f1]
theorem cdS_down {m K : Nat} {cs : List (List Int)} {i : Nat} (h : m ≤ i) (c : List Int) : (cdS m K cs i).append 0 c = (cdS m K cs (i + 1), 51) := by
  unfold PM.append
  rw [if_neg (by unfold badF; omega), if_pos (by unfold cdS; rw [if_neg (by omega)])]
  unfold cdS
  rw [if_neg (by omega), if_neg (by omega)]
theorem most_calls (a b : Int) (W : World) : Calls Try.prog 16 #[.int .i64 a, .int .i64 b] W fun e W' => e = .returned (.int .i64 (if a < b then a else b)) ∧ W = W' := by
  by_cases h : a < b
  · have d : decide (a < b) = true := decide_eq_true h
    rw [if_pos h]
    go_enter Try.func16, Try.ntmps16
    go_wp2
    go_ret
    exact ⟨rfl, rfl⟩
  · have d : decide (a < b) = false := decide_eq_false h
    rw [if_neg h]
    go_enter Try.func16, Try.ntmps16
    go_wp2
    go_ret
    exact ⟨rfl, rfl⟩
theorem Dk.grown {W w w' : World} {o : Nat → Prop} {g : Nat} {p : PM} (h : Dk W w o g p) {row : Option Nat} (hg : w.grownBy w' row) (hr : ∀ k, row = some k → ¬ o k ∧ W.heap.size ≤ k) : Dk W w' o g p := by
  have hu : Upd w w' (fun k => row = some k) := (Upd.refl _ _).grown hg (fun k hk _ => hk)
  exact ⟨h.rep.upd hu (fun k hk _ he => (hr k he).1 hk), fun k hk => Nat.lt_of_lt_of_le (h.lt k hk) hg.size, h.lo, hu.below h.below (fun k hk => (hr k hk).2) h.bw⟩
theorem chunk_at {w : World} {A : Option Addr} {n : Nat} {xs : List (List Int)} (h : Kd.C (Kd.slice 5 By) w A n xs) (i : Nat) (hi : i < xs.length) : ∃ ad A0 c0, A = some ad ∧ w.cell? (ad.add i) = some (.slice A0 xs[i].length c0) ∧ xs[i].length ≤ c0 ∧ Kd.C By w A0 xs[i].length xs[i] := by
  obtain ⟨ad, c, e, _, hK, hc0⟩ := Kd.C_get h ([] : List Int) (i : Int) (by omega) (by rw [← Kd.C_len h]; omega)
  rw [Int.toNat_natCast, List.getD_eq_getElem?_getD, List.getElem?_eq_getElem hi] at hK
  have hc : ∀ j u, c[j]? = some u → w.cell? (ad.add (i * 1 + j)) = some u := by rw [Int.toNat_natCast] at hc0; exact hc0
  obtain ⟨A0, c0, rfl, l0, g0⟩ := hK
  exact ⟨ad, A0, c0, e, by have hq := hc 0 _ rfl; rwa [Nat.mul_one, Nat.add_zero] at hq, l0, g0⟩
theorem row_step {W w w' : World} {o : Nat → Prop} {v : Value} {l : List Int} (h : Kd.R By 5 w W.heap.size (fun k => ¬ o k) v l) (hu : Upd w w' o) :
    Kd.R By 5 w' W.heap.size (fun k => ¬ ((o k ∨ w.heap.size ≤ k) ∧ W.heap.size ≤ k ∧ k < w'.heap.size)) v l :=
  Kd.R_mono (Kd.R_step (Kd.R_bound h) (fun k hk hlt => hu.block k hlt hk.1)) (fun k hk hn => by
    have h1 := hk.2.2.1
    rcases hn.1 with h2 | h2
    · exact hk.1 h2
    · omega)
end Go.Proofs.Yticokogggepfoaa.D
