/- Lists of byte strings are like themselves. No condition. -/
import Derived.Test.YtgfjmpnlkjocaaaDoorJFrameQ
import Derived.Test.YtgfjmpnlkjocaaaDoorJx2
namespace Go.Proofs.YtgfjmpnlkjocaaaDoor.J
open Go.RowKit Go.Proofs.YtgfjmpnlkjocaaaDoorW.PrintWords Go.Proofs.YtgfjmpnlkjocaaaDoorW.PrintLast Go.Proofs.YtgfjmpnlkjocaaaDoorW.PrintMore
set_option linter.unusedVariables false
set_option linter.unusedSimpArgs false

theorem alike_loop (x : List (List Int)) (hx : ∀ p ∈ x, p.length ≤ 4194304) (hl : x.length ≤ 20000000) (d : Nat) : ∀ (k i : Nat), i + d = x.length → d + 4194310 < k → arrearslaw6_alike.l0 k x x (i : Int) = some true := by
  induction d with
  | zero =>
    intro k i hi hk
    obtain ⟨k, rfl⟩ : ∃ m, k = m + 1 := ⟨k - 1, by omega⟩
    simp only [arrearslaw6_alike.l0]
    rw [if_neg (by omega)]
  | succ d ih =>
    intro k i hi hk
    obtain ⟨k, rfl⟩ : ∃ m, k = m + 1 := ⟨k - 1, by omega⟩
    have e : rd_L1 x (i : Int) = x[i] := by unfold rd_L1; simp [show i < x.length from by omega]
    have hm := hx x[i] (List.getElem_mem _)
    simp only [arrearslaw6_alike.l0]
    rw [if_pos (by omega), if_pos (by omega), if_pos (by omega), e, same_self _ (by omega) k (by omega), Option.bind_some, if_pos rfl, show wrap64 ((i : Int) + 1) = ((i + 1 : Nat) : Int) from by rw [pl_w64 (by omega) (by omega)]; omega]
    exact ih k (i + 1) (by omega) (by omega)
theorem alike_self (x : List (List Int)) (hx : ∀ p ∈ x, p.length ≤ 4194304) (hl : x.length ≤ 20000000) (k : Nat) (hk : x.length + 4194310 < k) : arrearslaw6_alike.f k x x = some true := by
  unfold arrearslaw6_alike.f
  rw [if_pos rfl]
  exact alike_loop x hx hl x.length k 0 (by omega) hk
end Go.Proofs.YtgfjmpnlkjocaaaDoor.J
