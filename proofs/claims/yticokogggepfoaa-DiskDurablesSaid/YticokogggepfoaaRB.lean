/- What the printed functions on bytes come to: copies, joins, first parts, equality. No condition but the lists' bulk. -/
import Derived.Test.YticokogggepfoaaRA
namespace Go.Proofs.Yticokogggepfoaa.D
open Go.RowKit Go.Proofs.YticokogggepfoaaW.PrintWords Go.Proofs.YticokogggepfoaaW.PrintLast Go.Proofs.YticokogggepfoaaW.PrintMore Go.Proofs.Yticokogggepfoaa.G
set_option linter.unusedVariables false
set_option linter.unusedSimpArgs false
theorem rd_nat (l : List Int) (i : Nat) (h : i < l.length) : rd l (i : Int) = l[i] := by unfold rd; simp [h]
theorem w64s {i n : Nat} (h : i < n) (hn : n ≤ 4611686018427387904) : wrap64 ((i : Int) + 1) = ((i + 1 : Nat) : Int) := by unfold wrap64; omega
theorem copied_l0 (l : List Int) (hl : l.length ≤ 140737488355328) (K : Nat) : ∀ (d i : Nat), i + d = l.length → arrearsref5_copied.l0 (d + 1 + K) l (l.take i) (i : Int) = some l := by
  intro d
  induction d with
  | zero =>
    intro i h
    rw [show 0 + 1 + K = K + 1 by omega, arrearsref5_copied.l0, if_neg (by omega), List.take_of_length_le (by omega)]
  | succ d ih =>
    intro i h
    have hi : i < l.length := by omega
    have ht : (l.take i).length = i := by rw [List.length_take]; omega
    rw [show d + 1 + 1 + K = (d + 1 + K) + 1 by omega, arrearsref5_copied.l0, if_pos (by omega), if_pos (by omega), if_pos (by omega), w64s hi (by omega), rd_nat l i hi, ← List.take_succ_eq_append_getElem hi]
    exact ih (i + 1) (by omega)
theorem copied_f (l : List Int) (hl : l.length ≤ 140737488355328) (K : Nat) : arrearsref5_copied.f (l.length + 1 + K) l = some l := by
  unfold arrearsref5_copied.f
  exact copied_l0 l hl K l.length 0 (by omega)
theorem joined_l0 (a b : List Int) (hl : a.length + b.length ≤ 140737488355328) (K : Nat) : ∀ (d i : Nat), i + d = b.length → arrearsref5_joined.l0 (d + 1 + K) b (a ++ b.take i) (i : Int) = some (a ++ b) := by
  intro d
  induction d with
  | zero =>
    intro i h
    rw [show 0 + 1 + K = K + 1 by omega, arrearsref5_joined.l0, if_neg (by omega), List.take_of_length_le (by omega)]
  | succ d ih =>
    intro i h
    have hi : i < b.length := by omega
    have ht : (a ++ b.take i).length = a.length + i := by rw [List.length_append, List.length_take]; omega
    rw [show d + 1 + 1 + K = (d + 1 + K) + 1 by omega, arrearsref5_joined.l0, if_pos (by omega), if_pos (by omega), if_pos (by omega), w64s hi (by omega), rd_nat b i hi, List.append_assoc, ← List.take_succ_eq_append_getElem hi]
    exact ih (i + 1) (by omega)
theorem joined_f (a b : List Int) (hl : a.length + b.length ≤ 140737488355328) : arrearsref5_joined.f (a.length + 1 + (b.length + 1)) a b = some (a ++ b) := by
  unfold arrearsref5_joined.f
  rw [copied_f a (by omega), Option.bind_some, show a.length + 1 + (b.length + 1) = b.length + 1 + (a.length + 1) by omega]
  have h := joined_l0 a b hl (a.length + 1) b.length 0 (by omega)
  rwa [List.take_zero, List.append_nil] at h
theorem upTo_f (l : List Int) (hl : l.length ≤ 140737488355328) (n : Nat) : arrearsref5_upTo.f (l.length + 1) l (n : Int) = some (l.take n) := by
  unfold arrearsref5_upTo.f
  by_cases h : n ≥ l.length
  · rw [if_pos (by omega), copied_f l hl 0, Option.bind_some, List.take_of_length_le h]
  · have ht : (l.take n).length = n := by rw [List.length_take]; omega
    rw [if_neg (by omega), if_pos (by omega), if_pos (by omega), Int.toNat_natCast, show l.length + 1 = (l.take n).length + 1 + (l.length - n) by omega, copied_f _ (by omega) _, Option.bind_some]
theorem equal_l0 (a b : List Int) (hl : a.length ≤ 4611686018427387904) (he : a.length = b.length) (K : Nat) : ∀ (d i : Nat), i + d = a.length → a.take i = b.take i → arrearslaw5_equal.l0 (d + 1 + K) a b (i : Int) = some (decide (a = b)) := by
  intro d
  induction d with
  | zero =>
    intro i h ht
    rw [List.take_of_length_le (by omega), List.take_of_length_le (by omega)] at ht
    rw [show 0 + 1 + K = K + 1 by omega, arrearslaw5_equal.l0, if_neg (by omega), decide_eq_true ht]
  | succ d ih =>
    intro i h ht
    have hi : i < a.length := by omega
    have hj : i < b.length := by omega
    rw [show d + 1 + 1 + K = (d + 1 + K) + 1 by omega, arrearslaw5_equal.l0, if_pos (by omega), if_pos (by omega), if_pos (by omega), w64s hi (by omega), rd_nat a i hi, rd_nat b i hj]
    by_cases hx : a[i] = b[i]
    · rw [if_pos hx]
      exact ih (i + 1) (by omega) (by rw [List.take_succ_eq_append_getElem hi, List.take_succ_eq_append_getElem hj, ht, hx])
    · rw [if_neg hx, decide_eq_false (fun e => hx (by subst e; rfl))]
theorem equal_f (a b : List Int) (hl : a.length ≤ 4611686018427387904) : arrearslaw5_equal.f (a.length + 1) a b = some (decide (a = b)) := by
  unfold arrearslaw5_equal.f
  by_cases he : a.length = b.length
  · rw [if_pos (by omega)]
    exact equal_l0 a b hl he 0 a.length 0 (by omega) rfl
  · rw [if_neg (by omega), decide_eq_false (fun e => he (by rw [e]))]
section
variable {W : World} {A B : Option Addr} {c b : Nat} {l r : List Int}
theorem rcopied_calls (h : Kd.C By W A l.length l) (hc : l.length ≤ c) (hl : l.length ≤ 140737488355328) : Calls Try.prog 56 #[.slice A l.length c] W fun e W' => ∃ v, e = .returned v ∧ Fresh W l v W' :=
  (arrearsref5_copied.calls _ A c l l W h hc (copied_f l hl 0)).mono fun e W' ⟨v, he, hr, hb⟩ => ⟨v, he, hr, hb⟩
theorem joined_calls (h : Kd.C By W A l.length l) (hc : l.length ≤ c) (h2 : Kd.C By W B r.length r) (hb : r.length ≤ b) (hl : l.length + r.length ≤ 140737488355328) : Calls Try.prog 58 #[.slice A l.length c, .slice B r.length b] W fun e W' => ∃ v, e = .returned v ∧ Fresh W (l ++ r) v W' :=
  (arrearsref5_joined.calls _ A c l B b r _ W h hc h2 hb (joined_f l r hl)).mono fun e W' ⟨v, he, hr, hb⟩ => ⟨v, he, hr, hb⟩
theorem upTo_calls (n : Nat) (h : Kd.C By W A l.length l) (hc : l.length ≤ c) (hl : l.length ≤ 140737488355328) : Calls Try.prog 46 #[.slice A l.length c, .int .i64 (n : Int)] W fun e W' => ∃ v, e = .returned v ∧ Fresh W (l.take n) v W' :=
  (arrearsref5_upTo.calls _ A c l _ _ W h hc (upTo_f l hl n)).mono fun e W' ⟨v, he, hr, hb⟩ => ⟨v, he, hr, hb⟩
theorem equal_calls (h : Kd.C By W A l.length l) (hc : l.length ≤ c) (h2 : Kd.C By W B r.length r) (hb : r.length ≤ b) (hl : l.length ≤ 4611686018427387904) : Calls Try.prog 20 #[.slice A l.length c, .slice B r.length b] W fun e W' => e = .returned (.bool (decide (l = r))) ∧ Below W.heap.size W W' :=
  (arrearslaw5_equal.calls _ A c l B b r _ W h hc h2 hb (equal_f l r hl)).mono fun e W' ⟨he, hd⟩ => ⟨he, hd.below⟩
theorem lcopied_calls (h : Kd.C By W A l.length l) (hc : l.length ≤ c) (hl : l.length < 140737488355328) : Calls Try.prog 15 #[.slice A l.length c] W fun e W' => ∃ v, e = .returned v ∧ Fresh W l v W' :=
  (arrearslaw5_copied.calls A c l l W h hc (by unfold arrearslaw5_copied.f; rw [if_pos (by simpa using hl)]; rfl)).mono fun e W' ⟨v, he, hr, hb⟩ => ⟨v, he, hr, hb⟩
theorem Fresh.reads {W W' : World} {l : List Int} {A : Option Addr} {n c : Nat} (h : Fresh W l (.slice A n c) W') : Kd.C By W' A l.length l := (Kd.R_reads' h.1).2.2
theorem joined_calls' {j : List Int} (hj : j = l ++ r) (h : Kd.C By W A l.length l) (hc : l.length ≤ c) (h2 : Kd.C By W B r.length r) (hb : r.length ≤ b) (hl : l.length + r.length ≤ 140737488355328) : Calls Try.prog 58 #[.slice A l.length c, .slice B r.length b] W fun e W' => ∃ v, e = .returned v ∧ Fresh W j v W' := by subst hj; exact joined_calls h hc h2 hb hl
theorem upTo_calls' {j : List Int} (n : Nat) (hj : j = l.take n) (h : Kd.C By W A l.length l) (hc : l.length ≤ c) (hl : l.length ≤ 140737488355328) : Calls Try.prog 46 #[.slice A l.length c, .int .i64 (n : Int)] W fun e W' => ∃ v, e = .returned v ∧ Fresh W j v W' := by subst hj; exact upTo_calls n h hc hl
end
end Go.Proofs.Yticokogggepfoaa.D
