/- LedgerReverses: of every list the law's answer is true: Reverse and the document's tell the same list, it is a new one each time, and what was handed over stays as it was. No condition beyond the list's bulk. -/
import Derived.Test.YtmppfpdaglkhkaaVx4
import Derived.Test.YtmppfpdaglkhkaaVOpen
namespace Go.Proofs.Ytmppfpdaglkhkaa.V
open Go.RowKit Go.Proofs.YtmppfpdaglkhkaaW.PrintWords Go.Proofs.YtmppfpdaglkhkaaW.PrintLast
set_option linter.unusedVariables false
set_option linter.unusedSimpArgs false
theorem w64 {x : Int} (h0 : -9223372036854775808 ≤ x) (h1 : x ≤ 9223372036854775807) : wrap64 x = x := by unfold wrap64; omega
def sw (e : S26) : S26 := ⟨e.f1, e.f0, e.f2⟩
def rev (l : List S26) : List S26 := (l.map sw).reverse
theorem rev_len (l : List S26) : (rev l).length = l.length := by simp [rev]
theorem rd_at (l : List S26) (i : Nat) (h : i < l.length) : rd_T26 l (i : Int) = l[i] := by
  unfold rd_T26
  rw [Int.toNat_natCast, List.getD_eq_getElem?_getD, List.getElem?_eq_getElem h]; rfl
theorem rev_loop (l : List S26) (hl : l.length ≤ 5864062014700) : ∀ (d i m : Nat), i + d = l.length →
    ledger_Reverse.l0 (d + 1 + m) (l.length : Int) (List.replicate d z26 ++ ((l.take i).map sw).reverse) l (l.length : Int) (i : Int) = some (rev l) := by
  intro d
  induction d with
  | zero =>
    intro i m h
    obtain rfl : i = l.length := by omega
    rw [show 0 + 1 + m = m + 1 by omega, ledger_Reverse.l0, if_neg (by omega), List.take_length]
    rfl
  | succ d ih =>
    intro i m h
    have e1 : wrap64 ((l.length : Int) - 1) = (l.length : Int) - 1 := w64 (by omega) (by omega)
    have e2 : wrap64 ((l.length : Int) - 1 - (i : Int)) = ((d : Nat) : Int) := by rw [w64 (by omega) (by omega)]; omega
    have e3 : wrap64 ((i : Int) + 1) = ((i + 1 : Nat) : Int) := by rw [w64 (by omega) (by omega)]; omega
    rw [show d + 1 + 1 + m = (d + 1 + m) + 1 by omega, ledger_Reverse.l0, e1, e2, e3, if_pos (by omega), if_pos (by omega), if_pos (by omega), if_pos (by omega), if_pos (by simp; omega), rd_at l i (by omega)]
    have e4 : (List.replicate (d + 1) z26 ++ ((l.take i).map sw).reverse).set ((d : Nat) : Int).toNat (⟨l[i].f1, l[i].f0, l[i].f2⟩ : S26) = List.replicate d z26 ++ ((l.take (i + 1)).map sw).reverse := by
      rw [Int.toNat_natCast, List.take_succ_eq_append_getElem (by omega), List.map_append, List.reverse_append, List.replicate_succ', List.append_assoc, List.set_append_right _ _ (by simp)]
      simp [sw]
    rw [e4]
    exact ih (i + 1) m (by omega)
theorem reverse_true (l : List S26) (hl : l.length ≤ 5864062014700) (k : Nat) (hk : l.length + 1 ≤ k) : ledger_Reverse.f k l = some (rev l) := by
  unfold ledger_Reverse.f
  rw [if_pos (by omega), Int.toNat_natCast, if_pos (by omega)]
  obtain ⟨m, rfl⟩ : ∃ m, k = l.length + 1 + m := ⟨k - (l.length + 1), by omega⟩
  have h := rev_loop l hl l.length 0 m (by omega)
  simpa using h
theorem rref_loop (l : List S26) (hl : l.length ≤ 5864062014700) (m : Nat) : ∀ j : Nat, j ≤ l.length →
    arrearsref8_Reverse.l0 (j + 1 + m) l (rev (l.drop j)) ((j : Int) - 1) = some (rev l) := by
  intro j
  induction j with
  | zero =>
    intro h
    rw [show 0 + 1 + m = m + 1 by omega, arrearsref8_Reverse.l0, if_neg (by omega), List.drop_zero]
  | succ j ih =>
    intro h
    have e1 : (((j + 1 : Nat) : Int) - 1) = (j : Int) := by omega
    have e2 : rev (l.drop (j + 1)) ++ [(⟨l[j].f1, l[j].f0, l[j].f2⟩ : S26)] = rev (l.drop j) := by
      rw [List.drop_eq_getElem_cons (i := j) (by omega)]
      unfold rev
      rw [List.map_cons, List.reverse_cons]
      rfl
    rw [show j + 1 + 1 + m = (j + 1 + m) + 1 by omega, arrearsref8_Reverse.l0, e1, if_pos (by omega), if_pos (by omega), if_pos (by omega), if_pos (by rw [rev_len, List.length_drop]; omega), rd_at l j (by omega), e2, w64 (by omega) (by omega)]
    exact ih (by omega)
theorem rref_true (l : List S26) (hl : l.length ≤ 5864062014700) (k : Nat) (hk : l.length + 1 ≤ k) : arrearsref8_Reverse.f k l = some (rev l) := by
  unfold arrearsref8_Reverse.f
  obtain ⟨m, rfl⟩ : ∃ m, k = l.length + 1 + m := ⟨k - (l.length + 1), by omega⟩
  have h := rref_loop l hl m l.length (Nat.le_refl _)
  rw [List.drop_length] at h
  rw [w64 (by omega) (by omega)]
  exact h
theorem alike_loop (l : List S26) (hl : l.length ≤ 5864062014700) : ∀ (d i m : Nat), i + d = l.length → arrearslaw8_alike.l0 (d + 1 + m) l l (i : Int) = some true := by
  intro d
  induction d with
  | zero =>
    intro i m h
    rw [show 0 + 1 + m = m + 1 by omega, arrearslaw8_alike.l0, if_neg (by omega)]
  | succ d ih =>
    intro i m h
    rw [show d + 1 + 1 + m = (d + 1 + m) + 1 by omega, arrearslaw8_alike.l0, if_pos (by omega), if_pos (by omega), if_pos (by omega), if_pos rfl, if_pos rfl, if_pos rfl, w64 (by omega) (by omega)]
    exact ih (i + 1) m (by omega)
theorem alike_true (l : List S26) (hl : l.length ≤ 5864062014700) (k : Nat) (hk : l.length + 1 ≤ k) : arrearslaw8_alike.f k l l = some true := by
  unfold arrearslaw8_alike.f
  rw [if_pos rfl]
  obtain ⟨m, rfl⟩ : ∃ m, k = l.length + 1 + m := ⟨k - (l.length + 1), by omega⟩
  exact alike_loop l hl l.length 0 m (by omega)
def ms : List S26 := [⟨wrap64 ((-50) - 1), 77, (-9)⟩, ⟨wrap64 ((-50) - 2), 77, (-9)⟩]
theorem ms_len : ms.length = 2 := rfl
theorem marked_is (l : List S26) (hl : l.length ≤ 5864062014700) : arrearslaw8_marked.f l = some (l ++ ms) := by
  unfold arrearslaw8_marked.f arrearslaw8_mark.f
  rw [if_pos (by rw [List.length_nil]; omega), Option.bind_some, Option.bind_some, Option.bind_some, Option.bind_some, List.nil_append, if_pos (by simp only [List.length_cons, List.length_nil]; omega)]
  rfl
theorem still_is (l : List S26) (hl : l.length ≤ 5864062014700) (k : Nat) (hk : l.length + 5 ≤ k) : arrearslaw8_still.f k (l ++ ms) l = some true := by
  unfold arrearslaw8_still.f arrearslaw8_mark.f
  have e : (l ++ ms).length = l.length + 2 := by rw [List.length_append, ms_len]
  have a := alike_true ms (by rw [ms_len]; omega) k (by rw [ms_len]; omega)
  rw [if_pos (by rw [w64 (by omega) (by omega)]; omega), if_pos (by omega), if_pos (by omega), Int.toNat_natCast, List.take_left, alike_true l hl k (by omega), Option.bind_some, if_pos rfl, Option.bind_some, Option.bind_some, List.drop_left, show arrearslaw8_alike.f k ms [(⟨wrap64 ((-50) - 1), 77, (-9)⟩ : S26), ⟨wrap64 ((-50) - 2), 77, (-9)⟩] = some true from a, Option.bind_some]
def tw (e : S26) : S26 := ⟨e.f1, e.f0, wrap64 (Int.tdiv e.f2 2)⟩
theorem rd_mid (A R : List S26) (x : S26) (i : Nat) (h : A.length = i) : rd_T26 (A ++ x :: R) (i : Int) = x := by
  subst h
  rw [rd_at _ _ (by simp)]
  simp
theorem set_mid (A R : List S26) (x y : S26) (i : Nat) (h : A.length = i) : (A ++ x :: R).set (i : Int).toNat y = A ++ y :: R := by
  subst h
  rw [Int.toNat_natCast, List.set_append_right _ _ (Nat.le_refl _)]
  simp
theorem turned_loop (l M : List S26) (hl : l.length ≤ 5864062014700) : ∀ (d i m : Nat), i + d = l.length →
    arrearslaw8_turned.l0 (d + 1 + m) (l.length : Int) ((l.take i).map tw ++ (l.drop i ++ M)) ((l.take i).map tw) (i : Int) = some (l.map tw, l.map tw ++ M) := by
  intro d
  induction d with
  | zero =>
    intro i m h
    obtain rfl : i = l.length := by omega
    rw [show 0 + 1 + m = m + 1 by omega, arrearslaw8_turned.l0, if_neg (by omega), List.take_length, List.drop_length, List.nil_append]
  | succ d ih =>
    intro i m h
    have hA : ((l.take i).map tw).length = i := by rw [List.length_map, List.length_take]; omega
    have eT : (l.take (i + 1)).map tw = (l.take i).map tw ++ [tw l[i]] := by rw [List.take_succ_eq_append_getElem (by omega), List.map_append]; rfl
    have e0 : l.drop i ++ M = l[i] :: (l.drop (i + 1) ++ M) := by rw [List.drop_eq_getElem_cons (i := i) (by omega)]; rfl
    have h2 := ih (i + 1) m (by omega)
    rw [eT, List.append_assoc] at h2
    rw [show d + 1 + 1 + m = (d + 1 + m) + 1 by omega, arrearslaw8_turned.l0, e0, if_pos (by omega), if_pos (by omega), if_pos (by rw [List.length_append, hA, List.length_cons]; omega), rd_mid _ _ _ i hA, Option.bind_some, set_mid _ _ _ _ i hA, rd_mid _ _ _ i hA, if_pos (by rw [hA]; omega), w64 (x := (i : Int) + 1) (by omega) (by omega), show (i : Int) + 1 = ((i + 1 : Nat) : Int) by omega]
    exact h2
theorem turned_is (l M : List S26) (hl : l.length ≤ 5864062014700) (k : Nat) (hk : l.length + 1 ≤ k) : arrearslaw8_turned.f k (l ++ M) (l.length : Int) = some (l.map tw, l.map tw ++ M) := by
  unfold arrearslaw8_turned.f arrearslaw8_turned.fN
  obtain ⟨m, rfl⟩ : ∃ m, k = l.length + 1 + m := ⟨k - (l.length + 1), by omega⟩
  rw [Int.toNat_natCast]
  have h := turned_loop l M hl l.length 0 m (by omega)
  rw [List.take_zero, List.drop_zero, List.map_nil, List.nil_append] at h
  exact h
theorem j2_true (l : List S26) (hl : l.length ≤ 5864062014700) (K : Nat) (hK : l.length + 5 ≤ K) : arrearslaw8_LedgerReverses.j2 (K + 1) l (l ++ ms) (rev l) (rev l) (!true) = some true := by
  have e : (l ++ ms).length = l.length + 2 := by rw [List.length_append, ms_len]
  have hT : (l.map tw).length = l.length := List.length_map _
  have e1 : (l.map tw ++ ms).take l.length = l.map tw := by rw [← hT]; exact List.take_left
  rw [Bool.not_true, arrearslaw8_LedgerReverses.j2, if_neg (by simp), if_pos (by omega), if_pos (by omega), turned_is l ms hl K (by omega), Option.bind_some]
  dsimp only
  rw [Int.toNat_natCast, e1, reverse_true _ (by omega) K (by omega), Option.bind_some, rref_true _ (by omega) K (by omega), Option.bind_some, alike_true _ (by rw [rev_len]; omega) K (by rw [rev_len]; omega), Option.bind_some, if_pos rfl, alike_true _ (by rw [rev_len]; omega) K (by rw [rev_len]; omega), Option.bind_some, if_pos rfl, still_is _ (by omega) K (by omega), Option.bind_some]
theorem loop_true (l : List S26) (hl : l.length ≤ 5864062014700) (R : Nat) (hR : l.length + 10 ≤ R) : ∀ (d i : Nat) (x : List S26), i + d = l.length → x.length = l.length →
    arrearslaw8_LedgerReverses.l0 (d + 1 + R) l (l ++ ms) x (rev l) (rev l) (i : Int) = some true := by
  intro d
  induction d with
  | zero =>
    intro i x h hx
    obtain ⟨K, hK⟩ : ∃ K, R = K + 1 := ⟨R - 1, by omega⟩
    have hj := j2_true l hl K (by omega)
    rw [← hK] at hj
    rw [show 0 + 1 + R = R + 1 by omega, arrearslaw8_LedgerReverses.l0, if_neg (by omega)]
    unfold arrearslaw8_mark.f
    rw [Option.bind_some, if_pos (by omega), if_pos (by rw [rev_len, w64 (x := (l.length : Int) + 1) (by omega) (by omega), List.length_append, List.length_singleton]; omega), alike_true _ (by rw [rev_len]; omega) R (by rw [rev_len]; omega), Option.bind_some, if_pos rfl, still_is l hl R (by omega), Option.bind_some]
    exact hj
  | succ d ih =>
    intro i x h hx
    rw [show d + 1 + 1 + R = (d + 1 + R) + 1 by omega, arrearslaw8_LedgerReverses.l0, if_pos (by omega)]
    unfold arrearslaw8_mark.f
    rw [Option.bind_some, if_pos (by omega), w64 (x := (i : Int) + 1) (by omega) (by omega), show (i : Int) + 1 = ((i + 1 : Nat) : Int) by omega]
    exact ih (i + 1) _ (by omega) (by rw [List.length_set, hx])
def LedgerReverses_Pure : Prop := ∀ (B0 : Nat) (l0 : List (S26)), ((∀ x_ ∈ l0, WF26 B0 x_) ∧ l0.length * 24 ≤ 140737488351232 ∧ l0.length ≤ B0) → ∃ k, arrearslaw8_LedgerReverses.f k l0 = some true
theorem LedgerReverses_pure : LedgerReverses_Pure := by
  intro B0 l h
  have hl : l.length ≤ 5864062014700 := by have := h.2.1; omega
  have e : (l ++ ms).length = l.length + 2 := by rw [List.length_append, ms_len]
  refine ⟨l.length + 1 + (l.length + 20) + 1, ?_⟩
  have hj := loop_true l hl (l.length + 20) (by omega) l.length 0 (rev l) (by omega) (rev_len l)
  unfold arrearslaw8_LedgerReverses.f
  rw [marked_is l hl, Option.bind_some, if_pos (by omega), if_pos (by omega), Int.toNat_natCast, List.take_left, reverse_true l hl _ (by omega), Option.bind_some, Option.bind_some, rref_true l hl _ (by omega), Option.bind_some, alike_true _ (by rw [rev_len]; omega) _ (by rw [rev_len]; omega), Option.bind_some, if_pos rfl, Option.bind_some, Bool.not_true, arrearslaw8_LedgerReverses.j0, if_neg (by simp)]
  exact hj
end Go.Proofs.Ytmppfpdaglkhkaa.V
