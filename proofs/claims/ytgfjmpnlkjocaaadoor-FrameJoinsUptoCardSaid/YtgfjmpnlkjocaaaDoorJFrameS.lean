/- Two byte strings, one behind the other, in the law's own helper. No condition. -/
import Derived.Test.YtgfjmpnlkjocaaaDoorJFrameQ
import Derived.Test.YtgfjmpnlkjocaaaDoorJx4
namespace Go.Proofs.YtgfjmpnlkjocaaaDoor.J
open Go.RowKit Go.Proofs.YtgfjmpnlkjocaaaDoorW.PrintWords Go.Proofs.YtgfjmpnlkjocaaaDoorW.PrintLast Go.Proofs.YtgfjmpnlkjocaaaDoorW.PrintMore
set_option linter.unusedVariables false
set_option linter.unusedSimpArgs false

theorem plus_loop (b x : List Int) (hl : b.length ≤ 10000000) (hx : x.length ≤ 100000000) (d : Nat) : ∀ (k i : Nat), i + d = b.length → d < k → arrearslaw6_plus.l0 k b (x ++ b.take i) (i : Int) = some (x ++ b) := by
  induction d with
  | zero =>
    intro k i hi hk
    obtain ⟨k, rfl⟩ : ∃ m, k = m + 1 := ⟨k - 1, by omega⟩
    simp only [arrearslaw6_plus.l0]
    rw [if_neg (by omega), List.take_of_length_le (by omega)]
  | succ d ih =>
    intro k i hi hk
    obtain ⟨k, rfl⟩ : ∃ m, k = m + 1 := ⟨k - 1, by omega⟩
    simp only [arrearslaw6_plus.l0]
    have e : b.take (i + 1) = b.take i ++ [rd b (i : Int)] := by rw [List.take_succ_eq_append_getElem (by omega), rd_at b i (by omega)]
    rw [if_pos (by omega), if_pos (by omega), if_pos (by rw [List.length_append, List.length_take]; omega), List.append_assoc, ← e, show wrap64 ((i : Int) + 1) = ((i + 1 : Nat) : Int) from by rw [pl_w64 (by omega) (by omega)]; omega]
    exact ih k (i + 1) (by omega) (by omega)
theorem plus_is (a b : List Int) (ha : a.length ≤ 10000000) (hb : b.length ≤ 10000000) (k : Nat) (hk : a.length + b.length < k) : arrearslaw6_plus.f k a b = some (a ++ b) := by
  unfold arrearslaw6_plus.f
  rw [copied_is a ha k (by omega), Option.bind_some]
  have := plus_loop b a hb (by omega) b.length k 0 (by omega) (by omega)
  simpa using this
end Go.Proofs.YtgfjmpnlkjocaaaDoor.J
