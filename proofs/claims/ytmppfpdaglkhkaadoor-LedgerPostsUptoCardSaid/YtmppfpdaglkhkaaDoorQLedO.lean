/- The document's Post: what it tells is what the program's Post tells. No condition but the numbers' range. -/
import Derived.Test.YtmppfpdaglkhkaaDoorQLedA
import Derived.Test.YtmppfpdaglkhkaaDoorQSum
import Derived.Test.YtmppfpdaglkhkaaDoorQx5
namespace Go.Proofs.YtmppfpdaglkhkaaDoor.Q
open Go.RowKit Go.Proofs.YtmppfpdaglkhkaaDoorW.PrintWords Go.Proofs.YtmppfpdaglkhkaaDoorW.PrintLast Go.Proofs.YtmppfpdaglkhkaaDoorW.PrintMore
set_option linter.unusedVariables false
set_option linter.unusedSimpArgs false

theorem w64 {x : Int} (h0 : -9223372036854775808 ≤ x) (h1 : x ≤ 9223372036854775807) : wrap64 x = x := by unfold wrap64; omega
theorem wf64' {x : Int} (h : (Lit.int .i64 x).wf = true) : ledger_Post.in64 x := by
  simp [Lit.wf, IntKind.min, IntKind.max, IntKind.bits, IntKind.signed] at h
  exact ⟨by omega, by omega⟩
theorem selI_nat (l : List Int) (i : Nat) : selI l (i : Int) = l.getD i 0 := by unfold selI; rw [Int.toNat_natCast]
theorem rd_at (l : List S43) (i : Nat) (h : i < l.length) : rd_T43 l (i : Int) = l[i] := by
  unfold rd_T43; simp [h]
theorem list12 (f : Nat → Int) (i : Nat) (hi : i < 12) : ([f 0, f 1, f 2, f 3, f 4, f 5, f 6, f 7, f 8, f 9, f 10, f 11] : List Int).getD i 0 = f i := by
  have : i = 0 ∨ i = 1 ∨ i = 2 ∨ i = 3 ∨ i = 4 ∨ i = 5 ∨ i = 6 ∨ i = 7 ∨ i = 8 ∨ i = 9 ∨ i = 10 ∨ i = 11 := by omega
  rcases this with rfl | rfl | rfl | rfl | rfl | rfl | rfl | rfl | rfl | rfl | rfl | rfl <;> rfl
theorem refused_is (e : S43) (k : Nat) (hk : 1 ≤ k) : arrearsref8_refused.f k e.f0 e.f1 e.f2 = some (ledger_Post.err e) := by
  obtain ⟨k, rfl⟩ : ∃ m, k = m + 1 := ⟨k - 1, by omega⟩
  unfold arrearsref8_refused.f arrearsref8_is.f ledger_Post.err
  by_cases c0 : e.f0 ≥ 0
  · rw [if_pos c0, Option.bind_some]
    by_cases c1 : e.f0 < 12
    · rw [decide_eq_true c1, if_pos rfl]
      by_cases c2 : e.f1 ≥ 0
      · rw [if_pos c2, Option.bind_some]
        by_cases c3 : e.f1 < 12
        · rw [decide_eq_true c3, if_pos rfl]
          by_cases c4 : e.f0 = e.f1
          · rw [show (e.f0 == e.f1) = true from beq_iff_eq.2 c4, arrearsref8_refused.j0, if_pos rfl, if_pos (by omega)]
          · rw [show (e.f0 == e.f1) = false from beq_eq_false_iff_ne.2 c4, arrearsref8_refused.j0, if_neg (by simp), if_neg (c := _ ∨ _) (by omega)]
            split <;> rfl
        · rw [decide_eq_false c3, if_neg (by simp), arrearsref8_refused.j0, if_pos rfl, if_pos (by omega)]
      · rw [if_neg c2, Option.bind_some, if_neg (by simp), arrearsref8_refused.j0, if_pos rfl, if_pos (by omega)]
    · rw [decide_eq_false c1, if_neg (by simp), arrearsref8_refused.j0, if_pos rfl, if_pos (by omega)]
  · rw [if_neg c0, Option.bind_some, if_neg (by simp), arrearsref8_refused.j0, if_pos rfl, if_pos (by omega)]
theorem own_is (i : Nat) (hi : i < 12) (x : Int) : arrearsref8_OwnSide.f (i : Int) x = some (!ledger_Post.wrong i x) := by
  unfold arrearsref8_OwnSide.f arrearsref8_Debits.f
  have : i = 0 ∨ i = 1 ∨ i = 2 ∨ i = 3 ∨ i = 4 ∨ i = 5 ∨ i = 6 ∨ i = 7 ∨ i = 8 ∨ i = 9 ∨ i = 10 ∨ i = 11 := by omega
  rcases this with rfl | rfl | rfl | rfl | rfl | rfl | rfl | rfl | rfl | rfl | rfl | rfl <;> (simp [ledger_Post.wrong, ledger_Post.side] <;> (rw [Bool.eq_iff_iff]; simp; try omega))
theorem rpost_l2 (T : Nat → Int) (a0 a1 a2 a3 a4 a5 a6 a7 a8 a9 a10 a11 : Int) : ∀ (d i m : Nat), i + d = 12 →
    arrearsref8_Post.l2 (d + 1 + m) (i : Int) a0 a1 a2 a3 a4 a5 a6 a7 a8 a9 a10 a11 (T 0) (T 1) (T 2) (T 3) (T 4) (T 5) (T 6) (T 7) (T 8) (T 9) (T 10) (T 11) = some (if (List.range' i d).all (fun j => !ledger_Post.wrong j (T j)) = true then (T 0, T 1, T 2, T 3, T 4, T 5, T 6, T 7, T 8, T 9, T 10, T 11, 0) else (a0, a1, a2, a3, a4, a5, a6, a7, a8, a9, a10, a11, 81))
  | 0, i, m, hi => by
    rw [show 0 + 1 + m = m + 1 from by omega, arrearsref8_Post.l2, if_neg (by omega)]
    rfl
  | d + 1, i, m, hi => by
    rw [show d + 1 + 1 + m = (d + 1 + m) + 1 from by omega, arrearsref8_Post.l2, if_pos (by omega), if_pos (by omega), selI_nat, list12 T i (by omega), own_is i (by omega), Option.bind_some, List.range'_succ, List.all_cons]
    by_cases c : (!ledger_Post.wrong i (T i)) = true
    · rw [c, if_pos rfl, Bool.true_and, show wrap64 ((i : Int) + 1) = ((i + 1 : Nat) : Int) from by rw [w64 (by omega) (by omega)]; omega]
      exact rpost_l2 T a0 a1 a2 a3 a4 a5 a6 a7 a8 a9 a10 a11 d (i + 1) m (by omega)
    · rw [if_neg c, Bool.eq_false_iff.2 c, Bool.false_and, if_neg (by simp)]
/-- What an entry moves on an account, as the document lists it. -/
def mv (a : Nat) (e : S43) : List Int := (if e.f0 = (a : Int) then [e.f2] else []) ++ (if e.f1 = (a : Int) then [wrap64 (-e.f2)] else [])
def mvl (a : Nat) : List S43 → List Int
  | [] => []
  | e :: l => mv a e ++ mvl a l
def Ok (l : List S43) : Prop := ∀ e ∈ l, ledger_Post.err e = 0 ∧ ledger_Post.in64 e.f2
theorem mv_facts (a : Nat) (e : S43) (h : ledger_Post.err e = 0) (h2 : ledger_Post.in64 e.f2) : (mv a e).length ≤ 1 ∧ (mv a e).sum = ledger_Post.amt a e ∧ ∀ x ∈ mv a e, -9223372036854775808 ≤ x ∧ x ≤ 9223372036854775807 := by
  obtain ⟨_, _, hne, h1⟩ := ledger_Post.err_zero h
  have hw : wrap64 (-e.f2) = -e.f2 := w64 (by omega) (by omega)
  unfold mv ledger_Post.amt
  rw [hw]
  by_cases c0 : e.f0 = (a : Int)
  · have c1 : ¬ e.f1 = (a : Int) := by omega
    simp only [if_pos c0, if_neg c1]
    exact ⟨by simp, by simp, fun x hx => by simp at hx; omega⟩
  · by_cases c1 : e.f1 = (a : Int)
    · simp only [if_neg c0, if_pos c1]
      exact ⟨by simp, by simp, fun x hx => by simp at hx; omega⟩
    · simp only [if_neg c0, if_neg c1]
      exact ⟨by simp, by simp, fun x hx => by simp at hx⟩
theorem mvl_facts (a : Nat) : ∀ l : List S43, Ok l → (mvl a l).length ≤ l.length ∧ (mvl a l).sum = (l.map (ledger_Post.amt a)).sum ∧ ∀ x ∈ mvl a l, -9223372036854775808 ≤ x ∧ x ≤ 9223372036854775807
  | [], _ => ⟨by simp [mvl], by simp [mvl], fun x hx => by simp [mvl] at hx⟩
  | e :: l, h => by
    obtain ⟨h1, h2⟩ := h e (by simp)
    obtain ⟨g1, g2, g3⟩ := mv_facts a e h1 h2
    obtain ⟨k1, k2, k3⟩ := mvl_facts a l (fun x hx => h x (List.mem_cons_of_mem _ hx))
    refine ⟨by unfold mvl; rw [List.length_append, List.length_cons]; omega, by unfold mvl; rw [List.sum_append_int, List.map_cons, List.sum_cons, g2, k2], fun x hx => ?_⟩
    unfold mvl at hx
    rcases List.mem_append.1 hx with hx | hx
    · exact g3 x hx
    · exact k3 x hx
theorem moves_loop (l : List S43) (hl : l.length ≤ 1048576) (a : Nat) : ∀ (d i m : Nat) (acc : List Int), i + d = l.length → acc.length + 2 * d ≤ 10000000 → arrearsref8_moves.l0 (d + 1 + m) l (a : Int) acc (i : Int) = some (acc ++ mvl a (l.drop i))
  | 0, i, m, acc, hi, ha => by
    rw [show 0 + 1 + m = m + 1 from by omega, arrearsref8_moves.l0, if_neg (by omega), List.drop_eq_nil_of_le (by omega)]
    simp [mvl]
  | d + 1, i, m, acc, hi, ha => by
    have e : wrap64 ((i : Int) + 1) = ((i + 1 : Nat) : Int) := by rw [w64 (by omega) (by omega)]; omega
    have ih := fun acc2 h => moves_loop l hl a d (i + 1) m acc2 (by omega) h
    rw [show d + 1 + 1 + m = (d + 1 + m) + 1 from by omega, arrearsref8_moves.l0, if_pos (by omega), if_pos (by omega), rd_at l i (by omega), e, List.drop_eq_getElem_cons (show i < l.length by omega)]
    show _ = some (acc ++ (mv a l[i] ++ mvl a (l.drop (i + 1))))
    unfold mv
    by_cases c0 : l[i].f0 = (a : Int)
    · rw [if_pos c0, if_pos c0, if_pos (by omega), Option.bind_some]
      by_cases c1 : l[i].f1 = (a : Int)
      · rw [if_pos c1, if_pos c1, if_pos (by rw [List.length_append, List.length_singleton]; omega), ih _ (by rw [List.length_append, List.length_append, List.length_singleton, List.length_singleton]; omega)]
        simp [List.append_assoc]
      · rw [if_neg c1, if_neg c1, ih _ (by rw [List.length_append, List.length_singleton]; omega)]
        simp [List.append_assoc]
    · rw [if_neg c0, if_neg c0]
      by_cases c1 : l[i].f1 = (a : Int)
      · rw [if_pos c1, if_pos c1, if_pos (by omega), ih _ (by rw [List.length_append, List.length_singleton]; omega)]
        simp [List.append_assoc]
      · rw [if_neg c1, if_neg c1, ih _ (by omega)]
        simp
theorem moves_is (l : List S43) (hl : l.length ≤ 1048576) (a0 a1 a2 a3 a4 a5 a6 a7 a8 a9 a10 a11 : Int) (a : Nat) (ha : a < 12) (k : Nat) (hk : l.length + 1 ≤ k) : arrearsref8_moves.f k a0 a1 a2 a3 a4 a5 a6 a7 a8 a9 a10 a11 l (a : Int) = some ([a0, a1, a2, a3, a4, a5, a6, a7, a8, a9, a10, a11].getD a 0 :: mvl a l) := by
  unfold arrearsref8_moves.f
  have h := moves_loop l hl a l.length 0 (k - (l.length + 1)) [[a0, a1, a2, a3, a4, a5, a6, a7, a8, a9, a10, a11].getD a 0] (by omega) (by simp; omega)
  rw [show l.length + 1 + (k - (l.length + 1)) = k from by omega, List.drop_zero] at h
  rw [if_pos (by omega), if_pos (by omega), if_pos (by simp), selI_nat]
  exact h
def part (T : Nat → Int) (i j : Nat) : Int := if j < i then T j else 0
theorem put_part (T : Nat → Int) (i j : Nat) : putI (i : Int) j (T i) (part T i j) = part T (i + 1) j := by
  unfold putI part
  by_cases c : i = j
  · subst c; rw [if_pos rfl, if_pos (by omega)]
  · rw [if_neg (by omega)]
    by_cases c2 : j < i
    · rw [if_pos c2, if_pos (by omega)]
    · rw [if_neg c2, if_neg (by omega)]
theorem rpost_l1 (l : List S43) (hl : l.length ≤ 1048576) (hok : Ok l) (a0 a1 a2 a3 a4 a5 a6 a7 a8 a9 a10 a11 : Int) (hb : Bk [a0, a1, a2, a3, a4, a5, a6, a7, a8, a9, a10, a11]) (m : Nat) (hm : l.length + 10 ≤ m) : ∀ (d i : Nat), i + d = 12 →
    arrearsref8_Post.l1 (d + 1 + m) l (i : Int) a0 a1 a2 a3 a4 a5 a6 a7 a8 a9 a10 a11 (part (ledger_Post.tot [a0, a1, a2, a3, a4, a5, a6, a7, a8, a9, a10, a11] l) i 0) (part (ledger_Post.tot [a0, a1, a2, a3, a4, a5, a6, a7, a8, a9, a10, a11] l) i 1) (part (ledger_Post.tot [a0, a1, a2, a3, a4, a5, a6, a7, a8, a9, a10, a11] l) i 2) (part (ledger_Post.tot [a0, a1, a2, a3, a4, a5, a6, a7, a8, a9, a10, a11] l) i 3) (part (ledger_Post.tot [a0, a1, a2, a3, a4, a5, a6, a7, a8, a9, a10, a11] l) i 4) (part (ledger_Post.tot [a0, a1, a2, a3, a4, a5, a6, a7, a8, a9, a10, a11] l) i 5) (part (ledger_Post.tot [a0, a1, a2, a3, a4, a5, a6, a7, a8, a9, a10, a11] l) i 6) (part (ledger_Post.tot [a0, a1, a2, a3, a4, a5, a6, a7, a8, a9, a10, a11] l) i 7) (part (ledger_Post.tot [a0, a1, a2, a3, a4, a5, a6, a7, a8, a9, a10, a11] l) i 8) (part (ledger_Post.tot [a0, a1, a2, a3, a4, a5, a6, a7, a8, a9, a10, a11] l) i 9) (part (ledger_Post.tot [a0, a1, a2, a3, a4, a5, a6, a7, a8, a9, a10, a11] l) i 10) (part (ledger_Post.tot [a0, a1, a2, a3, a4, a5, a6, a7, a8, a9, a10, a11] l) i 11) = if (List.range' i d).all (fun j => ledger_Post.inr (ledger_Post.tot [a0, a1, a2, a3, a4, a5, a6, a7, a8, a9, a10, a11] l j)) = true then arrearsref8_Post.l2 m 0 a0 a1 a2 a3 a4 a5 a6 a7 a8 a9 a10 a11 (part (ledger_Post.tot [a0, a1, a2, a3, a4, a5, a6, a7, a8, a9, a10, a11] l) 12 0) (part (ledger_Post.tot [a0, a1, a2, a3, a4, a5, a6, a7, a8, a9, a10, a11] l) 12 1) (part (ledger_Post.tot [a0, a1, a2, a3, a4, a5, a6, a7, a8, a9, a10, a11] l) 12 2) (part (ledger_Post.tot [a0, a1, a2, a3, a4, a5, a6, a7, a8, a9, a10, a11] l) 12 3) (part (ledger_Post.tot [a0, a1, a2, a3, a4, a5, a6, a7, a8, a9, a10, a11] l) 12 4) (part (ledger_Post.tot [a0, a1, a2, a3, a4, a5, a6, a7, a8, a9, a10, a11] l) 12 5) (part (ledger_Post.tot [a0, a1, a2, a3, a4, a5, a6, a7, a8, a9, a10, a11] l) 12 6) (part (ledger_Post.tot [a0, a1, a2, a3, a4, a5, a6, a7, a8, a9, a10, a11] l) 12 7) (part (ledger_Post.tot [a0, a1, a2, a3, a4, a5, a6, a7, a8, a9, a10, a11] l) 12 8) (part (ledger_Post.tot [a0, a1, a2, a3, a4, a5, a6, a7, a8, a9, a10, a11] l) 12 9) (part (ledger_Post.tot [a0, a1, a2, a3, a4, a5, a6, a7, a8, a9, a10, a11] l) 12 10) (part (ledger_Post.tot [a0, a1, a2, a3, a4, a5, a6, a7, a8, a9, a10, a11] l) 12 11) else some (a0, a1, a2, a3, a4, a5, a6, a7, a8, a9, a10, a11, 3)
  | 0, i, hi => by
    obtain rfl : i = 12 := by omega
    rw [show 0 + 1 + m = m + 1 from by omega, arrearsref8_Post.l1, if_neg (by omega)]
    rfl
  | d + 1, i, hi => by
    obtain ⟨f1, f2, f3⟩ := mvl_facts i l hok
    have hbi := hb.get i
    have hs : ([a0, a1, a2, a3, a4, a5, a6, a7, a8, a9, a10, a11].getD i 0 :: mvl i l).sum = ledger_Post.tot [a0, a1, a2, a3, a4, a5, a6, a7, a8, a9, a10, a11] l i := by rw [List.sum_cons, f2]; rfl
    rw [show d + 1 + 1 + m = (d + 1 + m) + 1 from by omega, arrearsref8_Post.l1, if_pos (by omega), moves_is l hl a0 a1 a2 a3 a4 a5 a6 a7 a8 a9 a10 a11 i (by omega) _ (by omega), Option.bind_some,
      pl_Sum _ (fun x hx => by rcases List.mem_cons.1 hx with rfl | hx; exact hbi; exact f3 x hx) (by rw [List.length_cons]; omega) _ (by rw [List.length_cons]; omega), Option.bind_some, hs, List.range'_succ, List.all_cons]
    unfold pl_fits
    by_cases c : -9223372036854775808 ≤ ledger_Post.tot [a0, a1, a2, a3, a4, a5, a6, a7, a8, a9, a10, a11] l i ∧ ledger_Post.tot [a0, a1, a2, a3, a4, a5, a6, a7, a8, a9, a10, a11] l i ≤ 9223372036854775807
    · rw [if_pos c]
      show (if true = true then _ else _) = _
      rw [if_pos rfl]
      show (if ledger_Post.tot [a0, a1, a2, a3, a4, a5, a6, a7, a8, a9, a10, a11] l i = _ then _ else _) = _
      by_cases c2 : ledger_Post.tot [a0, a1, a2, a3, a4, a5, a6, a7, a8, a9, a10, a11] l i = -9223372036854775808
      · rw [if_pos c2, show ledger_Post.inr (ledger_Post.tot [a0, a1, a2, a3, a4, a5, a6, a7, a8, a9, a10, a11] l i) = false from by unfold ledger_Post.inr; simp; omega, Bool.false_and, if_neg (by simp)]
      · rw [if_neg c2, if_pos (by omega), show ledger_Post.inr (ledger_Post.tot [a0, a1, a2, a3, a4, a5, a6, a7, a8, a9, a10, a11] l i) = true from by unfold ledger_Post.inr; simp; omega, Bool.true_and, show wrap64 ((i : Int) + 1) = ((i + 1 : Nat) : Int) from by rw [w64 (by omega) (by omega)]; omega]
        have ih := rpost_l1 l hl hok a0 a1 a2 a3 a4 a5 a6 a7 a8 a9 a10 a11 hb m hm d (i + 1) (by omega)
        simp only [← put_part] at ih
        exact ih
    · rw [if_neg c]
      show (if false = true then _ else _) = _
      rw [if_neg (by simp), show ledger_Post.inr (ledger_Post.tot [a0, a1, a2, a3, a4, a5, a6, a7, a8, a9, a10, a11] l i) = false from by unfold ledger_Post.inr; simp; omega, Bool.false_and, if_neg (by simp)]
theorem rpost_l0 (l : List S43) (hl : l.length ≤ 1048576) (a0 a1 a2 a3 a4 a5 a6 a7 a8 a9 a10 a11 : Int) (m : Nat) (hm : 1 ≤ m) : ∀ (d i : Nat), i + d = l.length →
    arrearsref8_Post.l0 (d + 1 + m) l (i : Int) a0 a1 a2 a3 a4 a5 a6 a7 a8 a9 a10 a11 = if ledger_Post.bad (l.drop i) = 0 then arrearsref8_Post.l1 m l 0 a0 a1 a2 a3 a4 a5 a6 a7 a8 a9 a10 a11 0 0 0 0 0 0 0 0 0 0 0 0 else some (a0, a1, a2, a3, a4, a5, a6, a7, a8, a9, a10, a11, ledger_Post.bad (l.drop i))
  | 0, i, hi => by
    rw [show 0 + 1 + m = m + 1 from by omega, arrearsref8_Post.l0, if_neg (by omega), List.drop_eq_nil_of_le (by omega)]
    rfl
  | d + 1, i, hi => by
    rw [show d + 1 + 1 + m = (d + 1 + m) + 1 from by omega, arrearsref8_Post.l0, if_pos (by omega), if_pos (by omega), rd_at l i (by omega), refused_is _ _ (by omega), Option.bind_some, List.drop_eq_getElem_cons (show i < l.length by omega)]
    show _ = if (if ledger_Post.err l[i] = 0 then ledger_Post.bad (l.drop (i + 1)) else ledger_Post.err l[i]) = 0 then _ else some (a0, a1, a2, a3, a4, a5, a6, a7, a8, a9, a10, a11, if ledger_Post.err l[i] = 0 then ledger_Post.bad (l.drop (i + 1)) else ledger_Post.err l[i])
    by_cases c : ledger_Post.err l[i] = 0
    · simp only [if_pos c]
      rw [show wrap64 ((i : Int) + 1) = ((i + 1 : Nat) : Int) from by rw [w64 (by omega) (by omega)]; omega]
      exact rpost_l0 l hl a0 a1 a2 a3 a4 a5 a6 a7 a8 a9 a10 a11 m hm d (i + 1) (by omega)
    · simp only [if_neg c]
theorem ok_of_bad : ∀ l : List S43, ledger_Post.bad l = 0 → Es l → Ok l
  | [], _, _ => fun e he => by simp at he
  | e :: l, h, hs => by
    unfold ledger_Post.bad at h
    by_cases c : ledger_Post.err e = 0
    · rw [if_pos c] at h
      intro x hx
      rcases List.mem_cons.1 hx with rfl | hx
      · exact ⟨c, hs x (by simp)⟩
      · exact ok_of_bad l h (fun y hy => hs y (List.mem_cons_of_mem _ hy)) x hx
    · rw [if_neg c] at h; exact absurd h c
/-- The document's Post is the program's. -/
theorem rpost_f (l : List S43) (hl : l.length ≤ 1048576) (hs : Es l) (a0 a1 a2 a3 a4 a5 a6 a7 a8 a9 a10 a11 : Int) (hb : Bk [a0, a1, a2, a3, a4, a5, a6, a7, a8, a9, a10, a11]) (k : Nat) (hk : 2 * l.length + 100 ≤ k) : arrearsref8_Post.f k a0 a1 a2 a3 a4 a5 a6 a7 a8 a9 a10 a11 l = some (tup (ledger_Post.spec [a0, a1, a2, a3, a4, a5, a6, a7, a8, a9, a10, a11] l)) := by
  obtain ⟨m, rfl⟩ : ∃ m, k = l.length + 1 + (12 + 1 + (12 + 1 + m)) := ⟨k - (l.length + 27), by omega⟩
  unfold arrearsref8_Post.f ledger_Post.spec
  have h0 := rpost_l0 l hl a0 a1 a2 a3 a4 a5 a6 a7 a8 a9 a10 a11 (12 + 1 + (12 + 1 + m)) (by omega) l.length 0 (by omega)
  rw [List.drop_zero] at h0
  refine h0.trans ?_
  by_cases c0 : ledger_Post.bad l = 0
  · rw [if_pos c0, if_pos c0]
    have h1 := rpost_l1 l hl (ok_of_bad l c0 hs) a0 a1 a2 a3 a4 a5 a6 a7 a8 a9 a10 a11 hb (12 + 1 + m) (by omega) 12 0 (by omega)
    have hr : List.range' 0 12 = List.range 12 := rfl
    rw [hr] at h1
    refine h1.trans ?_
    by_cases c1 : (List.range 12).all (fun j => ledger_Post.inr (ledger_Post.tot [a0, a1, a2, a3, a4, a5, a6, a7, a8, a9, a10, a11] l j)) = true
    · rw [if_pos c1, if_pos c1]
      have h2 := rpost_l2 (ledger_Post.tot [a0, a1, a2, a3, a4, a5, a6, a7, a8, a9, a10, a11] l) a0 a1 a2 a3 a4 a5 a6 a7 a8 a9 a10 a11 12 0 m (by omega)
      rw [hr] at h2
      refine h2.trans ?_
      by_cases c2 : (List.range 12).all (fun j => !ledger_Post.wrong j (ledger_Post.tot [a0, a1, a2, a3, a4, a5, a6, a7, a8, a9, a10, a11] l j)) = true
      · rw [if_pos c2, if_pos c2]; rfl
      · rw [if_neg c2, if_neg c2]; rfl
    · rw [if_neg c1, if_neg c1]; rfl
  · rw [if_neg c0, if_neg c0]; rfl
end Go.Proofs.YtmppfpdaglkhkaaDoor.Q
