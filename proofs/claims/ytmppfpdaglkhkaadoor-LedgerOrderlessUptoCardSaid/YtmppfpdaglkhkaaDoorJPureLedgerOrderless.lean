/- Entries that may be lead to the same book and the same error in the opposite order, and begun at any place. No condition beyond the lists' bulk. -/
import Derived.Test.YtmppfpdaglkhkaaDoorJx4
import Derived.Test.YtmppfpdaglkhkaaDoorJLedC
import Derived.Test.YtmppfpdaglkhkaaDoorJOpen
namespace Go.Proofs.YtmppfpdaglkhkaaDoor.J
open Go.RowKit Go.Proofs.YtmppfpdaglkhkaaDoorW.PrintWords Go.Proofs.YtmppfpdaglkhkaaDoorW.PrintLast
set_option linter.unusedVariables false
set_option linter.unusedSimpArgs false

def LedgerOrderless_Pure : Prop := ∀ (x0 : S24) (l1 : List (S43)) (a2 : Int), (WF24 1048576 x0) → (((∀ x_ ∈ l1, WF43 1048576 x_) ∧ l1.length * 24 ≤ 140737488351232 ∧ l1.length ≤ 1048576)) → ((Lit.int .i64 a2).wf = true) → ∃ k, arrearslaw8_LedgerOrderless.f k x0.f0.f0 x0.f0.f1 x0.f0.f2 x0.f0.f3 x0.f0.f4 x0.f0.f5 x0.f0.f6 x0.f0.f7 x0.f0.f8 x0.f0.f9 x0.f0.f10 x0.f0.f11 l1 a2 = some true
theorem back_loop (l x9 : List S43) (x8 : Int) (hl : l.length ≤ 1048576) (b0 b1 b2 b3 b4 b5 b6 b7 b8 b9 b10 b11 c0 c1 c2 c3 c4 c5 c6 c7 c8 c9 c10 c11 : Int) : ∀ (n m : Nat) (acc : List S43), n ≤ l.length → acc.length + n ≤ 1048576 →
    arrearslaw8_LedgerOrderless.l0 (n + m) l x8 x9 acc ((n : Int) - 1) b0 b1 b2 b3 b4 b5 b6 b7 b8 b9 b10 b11 c0 c1 c2 c3 c4 c5 c6 c7 c8 c9 c10 c11 = arrearslaw8_LedgerOrderless.l0 m l x8 x9 (acc ++ (l.take n).reverse) (-1) b0 b1 b2 b3 b4 b5 b6 b7 b8 b9 b10 b11 c0 c1 c2 c3 c4 c5 c6 c7 c8 c9 c10 c11 := by
  intro n
  induction n with
  | zero => intro m acc _ _; simp
  | succ n ih =>
    intro m acc h h2
    have e : (((n + 1 : Nat) : Int) - 1) = (n : Int) := by omega
    have e3 : wrap64 ((n : Int) - 1) = (n : Int) - 1 := w64 (by omega) (by omega)
    rw [e, show n + 1 + m = (n + m) + 1 by omega, arrearslaw8_LedgerOrderless.l0, if_pos (by omega), if_pos (by omega), if_pos (by omega), if_pos (by omega), rd_at l n (by omega), e3, ih m _ (by omega) (by rw [List.length_append]; simp; omega)]
    congr 1
    rw [List.append_assoc, List.take_succ_eq_append_getElem (by omega), List.reverse_append]
    rfl
theorem LedgerOrderless_pure : LedgerOrderless_Pure := by
  intro x0 l1 a2 h0 h1 h2
  have hb := bk_of h0
  have e1 := es_of h1.1
  have hl := h1.2.2
  refine ⟨(l1.length + 20) + 1, ?_⟩
  unfold arrearslaw8_LedgerOrderless.f
  rw [post_f hb e1]
  simp only [Option.bind_some, tup]
  have one : ∀ e c0 c1 c2 c3 c4 c5 c6 c7 c8 c9 c10 c11, arrearslaw8_LedgerOrderless.j0 (l1.length + 20 + 1) l1 a2 e true x0.f0.f0 x0.f0.f1 x0.f0.f2 x0.f0.f3 x0.f0.f4 x0.f0.f5 x0.f0.f6 x0.f0.f7 x0.f0.f8 x0.f0.f9 x0.f0.f10 x0.f0.f11 c0 c1 c2 c3 c4 c5 c6 c7 c8 c9 c10 c11 = some true := fun _ _ _ _ _ _ _ _ _ _ _ _ _ => by rw [arrearslaw8_LedgerOrderless.j0, if_pos rfl, posts_true]; rfl
  by_cases c80 : (ledger_Post.spec [x0.f0.f0, x0.f0.f1, x0.f0.f2, x0.f0.f3, x0.f0.f4, x0.f0.f5, x0.f0.f6, x0.f0.f7, x0.f0.f8, x0.f0.f9, x0.f0.f10, x0.f0.f11] l1).2 = 80
  · rw [if_pos c80]; exact one _ _ _ _ _ _ _ _ _ _ _ _ _
  rw [if_neg c80]
  by_cases c4 : (ledger_Post.spec [x0.f0.f0, x0.f0.f1, x0.f0.f2, x0.f0.f3, x0.f0.f4, x0.f0.f5, x0.f0.f6, x0.f0.f7, x0.f0.f8, x0.f0.f9, x0.f0.f10, x0.f0.f11] l1).2 = 4
  · rw [if_pos c4]; exact one _ _ _ _ _ _ _ _ _ _ _ _ _
  rw [if_neg c4]
  by_cases c0 : a2 < 0
  · rw [if_pos c0]; exact one _ _ _ _ _ _ _ _ _ _ _ _ _
  rw [if_neg c0]
  by_cases c1 : a2 > (l1.length : Int)
  · rw [decide_eq_true c1]; exact one _ _ _ _ _ _ _ _ _ _ _ _ _
  rw [decide_eq_false c1, arrearslaw8_LedgerOrderless.j0, if_neg (by simp), if_pos (by omega), if_pos (by omega)]
  have hbad : ledger_Post.bad l1 = 0 := by
    rcases spec_cases [x0.f0.f0, x0.f0.f1, x0.f0.f2, x0.f0.f3, x0.f0.f4, x0.f0.f5, x0.f0.f6, x0.f0.f7, x0.f0.f8, x0.f0.f9, x0.f0.f10, x0.f0.f11] l1 with ⟨hg, _⟩ | ⟨_, _, _, hc⟩
    · exact hg.1
    · rcases hc with ⟨hn, he⟩ | ⟨h, _⟩
      · rcases bad_is l1 with h | h | h
        · exact h
        · rw [he, h] at c80; exact absurd rfl c80
        · rw [he, h] at c4; exact absurd rfl c4
      · exact h
  have all0 := ledger_Post.bad_zero hbad
  obtain ⟨p, rfl⟩ := Int.eq_ofNat_of_zero_le (show 0 ≤ a2 by omega)
  simp only [Option.bind_some, Int.toNat_natCast, List.nil_append, List.length_nil]
  rw [if_pos (by simp; omega)]
  try simp only [Option.bind_some]
  rw [if_pos (by simp; omega), w64 (by omega) (by omega), back_loop l1 _ _ hl _ _ _ _ _ _ _ _ _ _ _ _ _ _ _ _ _ _ _ _ _ _ _ _ l1.length 20 [] (Nat.le_refl _) (by simpa using hl), List.take_length, List.nil_append,
    arrearslaw8_LedgerOrderless.l0, if_neg (by omega)]
  have hd : ∀ e ∈ l1.drop p ++ l1.take p, e ∈ l1 := fun e he => (List.mem_append.1 he).elim List.mem_of_mem_drop List.mem_of_mem_take
  have hr : ∀ e ∈ l1.reverse, e ∈ l1 := fun e he => List.mem_reverse.1 he
  have s1 : ledger_Post.spec [x0.f0.f0, x0.f0.f1, x0.f0.f2, x0.f0.f3, x0.f0.f4, x0.f0.f5, x0.f0.f6, x0.f0.f7, x0.f0.f8, x0.f0.f9, x0.f0.f10, x0.f0.f11] (l1.drop p ++ l1.take p) = ledger_Post.spec [x0.f0.f0, x0.f0.f1, x0.f0.f2, x0.f0.f3, x0.f0.f4, x0.f0.f5, x0.f0.f6, x0.f0.f7, x0.f0.f8, x0.f0.f9, x0.f0.f10, x0.f0.f11] l1 := by
    refine spec_congr (ledger_Post.bad_none fun e he => all0 e (hd e he)) hbad (tot_congr fun i => ?_)
    conv => rhs; rw [← List.take_append_drop p l1]
    rw [List.map_append, List.map_append, List.sum_append_int, List.sum_append_int]
    omega
  have s2 : ledger_Post.spec [x0.f0.f0, x0.f0.f1, x0.f0.f2, x0.f0.f3, x0.f0.f4, x0.f0.f5, x0.f0.f6, x0.f0.f7, x0.f0.f8, x0.f0.f9, x0.f0.f10, x0.f0.f11] l1.reverse = ledger_Post.spec [x0.f0.f0, x0.f0.f1, x0.f0.f2, x0.f0.f3, x0.f0.f4, x0.f0.f5, x0.f0.f6, x0.f0.f7, x0.f0.f8, x0.f0.f9, x0.f0.f10, x0.f0.f11] l1 :=
    spec_congr (ledger_Post.bad_none fun e he => all0 e (hr e he)) hbad (tot_congr fun i => sum_rev _ l1)
  rw [post_f hb (fun e he => e1 e (hd e he)), post_f hb (fun e he => e1 e (hr e he)), s1, s2]
  simp only [Option.bind_some, tup]
  rw [same_true _ (by omega)]
  simp only [Option.bind_some, if_true]
  rw [posts_true]; rfl
end Go.Proofs.YtmppfpdaglkhkaaDoor.J
