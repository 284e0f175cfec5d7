/- Plain facts: what Reverse tells. No condition beyond the lists' bulk. -/
import Derived.Test.YtmppfpdaglkhkaaDoorLLedP
import Derived.Test.YtmppfpdaglkhkaaDoorLx4
namespace Go.Proofs.YtmppfpdaglkhkaaDoor.L
open Go.RowKit Go.Proofs.YtmppfpdaglkhkaaDoorW.PrintWords Go.Proofs.YtmppfpdaglkhkaaDoorW.PrintLast
set_option linter.unusedVariables false
set_option linter.unusedSimpArgs false
def sw (e : S43) : S43 := ⟨e.f1, e.f0, e.f2⟩
theorem sw_sw (e : S43) : sw (sw e) = e := rfl
def rev (l : List S43) : List S43 := (l.map sw).reverse
theorem rev_rev (l : List S43) : rev (rev l) = l := by
  unfold rev
  rw [List.map_reverse, List.reverse_reverse, List.map_map]
  conv => rhs; rw [← List.map_id l]
  rfl
theorem rev_len (l : List S43) : (rev l).length = l.length := by simp [rev]
theorem rd_at (l : List S43) (i : Nat) (h : i < l.length) : rd_T43 l (i : Int) = l[i] := by
  unfold rd_T43
  rw [Int.toNat_natCast, List.getD_eq_getElem?_getD, List.getElem?_eq_getElem h]; rfl
theorem rev_loop (l : List S43) (hl : l.length ≤ 1048576) : ∀ (d i m : Nat), i + d = l.length →
    ledger_Reverse.l0 (d + 1 + m) (l.length : Int) (List.replicate d z43 ++ ((l.take i).map sw).reverse) l (l.length : Int) (i : Int) = some (rev l) := by
  intro d
  induction d with
  | zero =>
    intro i m h
    obtain rfl : i = l.length := by omega
    rw [show 0 + 1 + m = m + 1 by omega, ledger_Reverse.l0, if_neg (by omega), List.take_length]
    rfl
  | succ d ih =>
    intro i m h
    have e1 : wrap64 ((l.length : Int) - 1) = (l.length : Int) - 1 := w64 (by omega) (by omega)
    have e2 : wrap64 ((l.length : Int) - 1 - (i : Int)) = ((d : Nat) : Int) := by rw [w64 (by omega) (by omega)]; omega
    have e3 : wrap64 ((i : Int) + 1) = ((i + 1 : Nat) : Int) := by rw [w64 (by omega) (by omega)]; omega
    rw [show d + 1 + 1 + m = (d + 1 + m) + 1 by omega, ledger_Reverse.l0, e1, e2, e3, if_pos (by omega), if_pos (by omega), if_pos (by omega), if_pos (by omega), if_pos (by simp; omega), rd_at l i (by omega)]
    have e4 : (List.replicate (d + 1) z43 ++ ((l.take i).map sw).reverse).set ((d : Nat) : Int).toNat (⟨l[i].f1, l[i].f0, l[i].f2⟩ : S43) = List.replicate d z43 ++ ((l.take (i + 1)).map sw).reverse := by
      rw [Int.toNat_natCast, List.take_succ_eq_append_getElem (by omega), List.map_append, List.reverse_append, List.replicate_succ', List.append_assoc, List.set_append_right _ _ (by simp)]
      simp [sw]
    rw [e4]
    exact ih (i + 1) m (by omega)
theorem reverse_true (l : List S43) (hl : l.length ≤ 1048576) (k : Nat) (hk : l.length + 1 ≤ k) : ledger_Reverse.f k l = some (rev l) := by
  unfold ledger_Reverse.f
  rw [if_pos (by omega), Int.toNat_natCast, if_pos (by omega)]
  obtain ⟨m, rfl⟩ : ∃ m, k = l.length + 1 + m := ⟨k - (l.length + 1), by omega⟩
  have h := rev_loop l hl l.length 0 m (by omega)
  simpa using h
theorem sum_rev (f : S43 → Int) : ∀ l : List S43, (l.reverse.map f).sum = (l.map f).sum
  | [] => rfl
  | e :: l => by
    rw [List.reverse_cons, List.map_append, List.sum_append_int, sum_rev f l]
    simp; omega
theorem amt_sw (i : Nat) (e : S43) : ledger_Post.amt i (sw e) = - ledger_Post.amt i e := by
  unfold ledger_Post.amt sw
  dsimp only
  omega
theorem sum_rev_sw (i : Nat) : ∀ l : List S43, ((rev l).map (ledger_Post.amt i)).sum = - (l.map (ledger_Post.amt i)).sum := by
  intro l
  unfold rev
  rw [sum_rev, List.map_map]
  induction l with
  | nil => rfl
  | cons e l ih =>
    simp only [List.map_cons, List.sum_cons, Function.comp_apply, amt_sw] at ih ⊢
    omega
theorem err_sw (e : S43) (h : ledger_Post.err e = 0) : ledger_Post.err (sw e) = 0 := by
  have h2 := ledger_Post.err_zero h
  unfold ledger_Post.err sw
  dsimp only
  rw [if_neg (by omega), if_neg (by omega)]
theorem bad_rev {l : List S43} (h : ledger_Post.bad l = 0) : ledger_Post.bad (rev l) = 0 := by
  refine ledger_Post.bad_none fun e he => ?_
  unfold rev at he
  obtain ⟨x, hx, rfl⟩ := List.mem_map.1 (List.mem_reverse.1 he)
  exact err_sw x (ledger_Post.bad_zero h x hx)
theorem es_rev {l : List S43} (h : Es l) : Es (rev l) := fun e he => by
  unfold rev at he
  obtain ⟨x, hx, rfl⟩ := List.mem_map.1 (List.mem_reverse.1 he)
  exact h x hx
end Go.Proofs.YtmppfpdaglkhkaaDoor.L
