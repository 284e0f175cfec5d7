/- Plain facts: is each account on its own side; is no net the least. No condition. -/
import Derived.Test.YtmppfpdaglkhkaaDoorLLedP
import Derived.Test.YtmppfpdaglkhkaaDoorLx3
namespace Go.Proofs.YtmppfpdaglkhkaaDoor.L
open Go.RowKit Go.Proofs.YtmppfpdaglkhkaaDoorW.PrintWords Go.Proofs.YtmppfpdaglkhkaaDoorW.PrintLast
set_option linter.unusedVariables false
set_option linter.unusedSimpArgs false
theorem selI_nat (l : List Int) (i : Nat) : selI l (i : Int) = l.getD i 0 := by unfold selI; rw [Int.toNat_natCast]
theorem own_step (a0 a1 a2 a3 a4 a5 a6 a7 a8 a9 a10 a11 : Int) (k i : Nat) (hi : i < 12) : arrearslaw8_ownSide.l0 (k + 2) (i : Int) a0 a1 a2 a3 a4 a5 a6 a7 a8 a9 a10 a11 = if ledger_Post.wrong i ([a0, a1, a2, a3, a4, a5, a6, a7, a8, a9, a10, a11].getD i 0) = true then some false else arrearslaw8_ownSide.l0 k ((i + 1 : Nat) : Int) a0 a1 a2 a3 a4 a5 a6 a7 a8 a9 a10 a11 := by
  rcases ledger_Post.twelve hi with rfl | rfl | rfl | rfl | rfl | rfl | rfl | rfl | rfl | rfl | rfl | rfl <;>
    simp [arrearslaw8_ownSide.l0, arrearslaw8_ownSide.j1, ledger_Debits.f, ledger_Debits.side, ledger_Post.wrong, ledger_Post.side, selI, wrap64]
def osB (b : List Int) : Bool := (List.range 12).all (fun i => !ledger_Post.wrong i (b.getD i 0))
theorem own_loop (a0 a1 a2 a3 a4 a5 a6 a7 a8 a9 a10 a11 : Int) : ∀ (d i m : Nat), i + d = 12 → arrearslaw8_ownSide.l0 (2 * d + 1 + m) (i : Int) a0 a1 a2 a3 a4 a5 a6 a7 a8 a9 a10 a11 = some ((List.range' i d).all (fun j => !ledger_Post.wrong j ([a0, a1, a2, a3, a4, a5, a6, a7, a8, a9, a10, a11].getD j 0))) := by
  intro d
  induction d with
  | zero =>
    intro i m h
    obtain rfl : i = 12 := by omega
    rw [show 2 * 0 + 1 + m = m + 1 by omega, arrearslaw8_ownSide.l0, if_neg (by omega)]; rfl
  | succ d ih =>
    intro i m h
    rw [show 2 * (d + 1) + 1 + m = (2 * d + 1 + m) + 2 by omega, own_step _ _ _ _ _ _ _ _ _ _ _ _ _ _ (by omega), ih (i + 1) m (by omega), List.range'_succ, List.all_cons]
    cases ledger_Post.wrong i ([a0, a1, a2, a3, a4, a5, a6, a7, a8, a9, a10, a11].getD i 0) <;> rfl
theorem own_true (a0 a1 a2 a3 a4 a5 a6 a7 a8 a9 a10 a11 : Int) (k : Nat) (hk : 25 ≤ k) : arrearslaw8_ownSide.f k a0 a1 a2 a3 a4 a5 a6 a7 a8 a9 a10 a11 = some (osB [a0, a1, a2, a3, a4, a5, a6, a7, a8, a9, a10, a11]) := by
  obtain ⟨m, rfl⟩ : ∃ m, k = 2 * 12 + 1 + m := ⟨k - 25, by omega⟩
  unfold arrearslaw8_ownSide.f osB
  rw [List.range_eq_range']
  exact own_loop _ _ _ _ _ _ _ _ _ _ _ _ 12 0 m (by omega)
theorem osB_good {b : List Int} {l : List S43} (h : good b l) : osB (after b l) = true := by
  unfold osB
  rw [List.all_eq_true]
  intro i hi
  have hi := List.mem_range.1 hi
  rw [after_get b l hi, (h.2 i hi).2]; rfl
end Go.Proofs.YtmppfpdaglkhkaaDoor.L
