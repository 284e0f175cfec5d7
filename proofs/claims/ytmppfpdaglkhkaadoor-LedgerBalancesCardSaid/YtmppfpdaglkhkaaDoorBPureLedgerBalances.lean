/- LedgerBalances: of every book and account the law's answer is true: Balance and Debits are the document's. -/
import Derived.Test.YtmppfpdaglkhkaaDoorBx3
import Derived.Test.YtmppfpdaglkhkaaDoorBx2
import Derived.Test.YtmppfpdaglkhkaaDoorBx1
import Derived.Test.YtmppfpdaglkhkaaDoorBx2
import Derived.Test.YtmppfpdaglkhkaaDoorBOpen
namespace Go.Proofs.YtmppfpdaglkhkaaDoor.B
open Go.RowKit Go.Proofs.YtmppfpdaglkhkaaDoorW.PrintWords Go.Proofs.YtmppfpdaglkhkaaDoorW.PrintLast Go.Proofs.YtmppfpdaglkhkaaDoorW.PrintMore
set_option linter.unusedVariables false
set_option linter.unusedSimpArgs false

theorem is_is (o : Int) : arrearsref8_is.f o = some (decide (0 ≤ o ∧ o < 12)) := by
  unfold arrearsref8_is.f
  split
  · congr 1; rw [decide_eq_decide]; omega
  · rw [decide_eq_false (by omega)]
theorem debits_side (o : Int) (h0 : 0 ≤ o) (h1 : o < 12) : arrearsref8_Debits.f o = some (decide (ledger_Balance.side o > 0)) := by
  rcases ledger_Balance.twelve h0 h1 with rfl | rfl | rfl | rfl | rfl | rfl | rfl | rfl | rfl | rfl | rfl | rfl <;> rfl
theorem debits_out (o : Int) (h : o < 0 ∨ 12 ≤ o) : arrearsref8_Debits.f o = some false := by
  unfold arrearsref8_Debits.f
  rw [if_neg (by omega), if_neg (by omega), if_neg (by omega), if_neg (by omega), if_neg (by omega), if_neg (by omega)]
theorem debits_same (o : Int) : ledger_Debits.f o = arrearsref8_Debits.f o := by
  unfold ledger_Debits.f
  by_cases c : o < 0 ∨ 12 ≤ o
  · rw [debits_out o c]
    rcases c with c | c
    · rw [if_neg (by omega)]
    · rw [if_pos (by omega), if_neg (by omega)]
  · rw [debits_side o (by omega) (by omega), if_pos (by omega), if_pos (by omega)]; rfl
theorem balance_same (x0 x1 x2 x3 x4 x5 x6 x7 x8 x9 x10 x11 o : Int) : arrearsref8_Balance.f x0 x1 x2 x3 x4 x5 x6 x7 x8 x9 x10 x11 o = ledger_Balance.f x0 x1 x2 x3 x4 x5 x6 x7 x8 x9 x10 x11 o := by
  unfold arrearsref8_Balance.f ledger_Balance.f
  rw [is_is, Option.bind_some]
  by_cases c : 0 ≤ o ∧ o < 12
  · have n0 : ¬ o < 0 := by omega
    have n1 : ¬ o ≥ 12 := by omega
    rw [decide_eq_true c, if_pos rfl, if_pos c.1, if_pos c.2, debits_side o c.1 c.2, Option.bind_some, if_neg n0, if_neg n1]
    by_cases s : ledger_Balance.side o > 0
    · rw [decide_eq_true s, if_pos rfl, if_pos s]; rfl
    · rw [decide_eq_false s, if_neg (by simp), if_neg s]; rfl
  · rw [decide_eq_false c, if_neg (by simp)]
    by_cases d : o < 0
    · rw [if_pos d]
    · rw [if_neg d, if_pos (by omega)]
def LedgerBalances_Pure : Prop := ∀ (B0 : Nat) (x0 : S24) (a1 : Int), (WF24 B0 x0) → ((Lit.int .i64 a1).wf = true) → arrearslaw8_LedgerBalances.f x0.f0.f0 x0.f0.f1 x0.f0.f2 x0.f0.f3 x0.f0.f4 x0.f0.f5 x0.f0.f6 x0.f0.f7 x0.f0.f8 x0.f0.f9 x0.f0.f10 x0.f0.f11 a1 = some true
theorem LedgerBalances_pure : LedgerBalances_Pure := by
  intro B0 x0 a1 _ _
  unfold arrearslaw8_LedgerBalances.f
  rw [balance_same, debits_same]
  obtain ⟨q, hq⟩ : ∃ q, ledger_Balance.f x0.f0.f0 x0.f0.f1 x0.f0.f2 x0.f0.f3 x0.f0.f4 x0.f0.f5 x0.f0.f6 x0.f0.f7 x0.f0.f8 x0.f0.f9 x0.f0.f10 x0.f0.f11 a1 = some q := by unfold ledger_Balance.f; exact ⟨_, rfl⟩
  obtain ⟨d, hd⟩ : ∃ d, arrearsref8_Debits.f a1 = some d := by
    by_cases c : a1 < 0 ∨ 12 ≤ a1
    · exact ⟨_, debits_out a1 c⟩
    · exact ⟨_, debits_side a1 (by omega) (by omega)⟩
  rw [hq, hd]
  simp
end Go.Proofs.YtmppfpdaglkhkaaDoor.B
