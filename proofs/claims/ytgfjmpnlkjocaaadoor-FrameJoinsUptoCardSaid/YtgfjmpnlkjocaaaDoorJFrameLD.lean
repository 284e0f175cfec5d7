/- The law's own helpers: copies, rooms, sameness, another byte in the middle. No condition. -/
import Derived.Test.YtgfjmpnlkjocaaaDoorJFrameCD
import Derived.Test.YtgfjmpnlkjocaaaDoorJx5
import Derived.Test.YtgfjmpnlkjocaaaDoorJx2
import Derived.Test.YtgfjmpnlkjocaaaDoorJx1
namespace Go.Proofs.YtgfjmpnlkjocaaaDoor.J
open Go.RowKit Go.Proofs.YtgfjmpnlkjocaaaDoorW.PrintWords Go.Proofs.YtgfjmpnlkjocaaaDoorW.PrintLast Go.Proofs.YtgfjmpnlkjocaaaDoorW.PrintMore
set_option linter.unusedVariables false
set_option linter.unusedSimpArgs false

namespace Doc
theorem copied_loop (l : List Int) (hl : l.length ≤ 10000000) (d : Nat) : ∀ (k i : Nat), i + d = l.length → d < k → arrearslaw6_copied.l0 k l (l.take i) (i : Int) = some l := by
  induction d with
  | zero =>
    intro k i hi hk
    obtain ⟨k, rfl⟩ : ∃ m, k = m + 1 := ⟨k - 1, by omega⟩
    simp only [arrearslaw6_copied.l0]
    rw [if_neg (by omega), List.take_of_length_le (by omega)]
  | succ d ih =>
    intro k i hi hk
    obtain ⟨k, rfl⟩ : ∃ m, k = m + 1 := ⟨k - 1, by omega⟩
    simp only [arrearslaw6_copied.l0]
    have e : l.take (i + 1) = l.take i ++ [rd l (i : Int)] := by
      rw [List.take_succ_eq_append_getElem (by omega)]
      unfold rd
      simp [show i < l.length from by omega]
    rw [if_pos (by omega), if_pos (by omega), if_pos (by rw [List.length_take]; omega), ← e, show wrap64 ((i : Int) + 1) = ((i + 1 : Nat) : Int) from by rw [pl_w64 (by omega) (by omega)]; omega]
    exact ih k (i + 1) (by omega) (by omega)
theorem copied_is (l : List Int) (hl : l.length ≤ 10000000) (k : Nat) (hk : l.length < k) : arrearslaw6_copied.f k l = some l := by
  unfold arrearslaw6_copied.f
  have := copied_loop l hl l.length k 0 (by omega) hk
  simpa using this
def marks : Nat → Nat → List Int
  | _, 0 => []
  | i, d + 1 => (201 + (i : Int)) :: marks (i + 1) d
theorem roomy_loop (d : Nat) : ∀ (k i : Nat) (acc : List Int), i + d = 5 → d < k → acc.length + d ≤ 20000000 → arrearslaw6_roomy.l0 k acc (i : Int) = some (acc ++ marks i d) := by
  induction d with
  | zero =>
    intro k i acc hi hk ha
    obtain ⟨k, rfl⟩ : ∃ m, k = m + 1 := ⟨k - 1, by omega⟩
    simp only [arrearslaw6_roomy.l0]
    rw [if_neg (by omega)]; simp [marks]
  | succ d ih =>
    intro k i acc hi hk ha
    obtain ⟨k, rfl⟩ : ∃ m, k = m + 1 := ⟨k - 1, by omega⟩
    simp only [arrearslaw6_roomy.l0]
    rw [if_pos (by omega), if_pos (by omega), pl_w64 (x := 201 + (i : Int)) (by omega) (by omega), show (201 + (i : Int)) % 256 = 201 + (i : Int) from by omega, show wrap64 ((i : Int) + 1) = ((i + 1 : Nat) : Int) from by rw [pl_w64 (by omega) (by omega)]; omega,
      ih k (i + 1) _ (by omega) (by omega) (by rw [List.length_append, List.length_singleton]; omega)]
    simp [marks]
theorem roomy_is (l : List Int) (hl : l.length ≤ 6000000) (k : Nat) (hk : l.length + 10 < k) : arrearslaw6_roomy.f k l = some (l ++ marks 0 5) := by
  unfold arrearslaw6_roomy.f
  rw [copied_is l (by omega) k (by omega), Option.bind_some]
  exact roomy_loop 5 k 0 l (by omega) (by omega) (by omega)
theorem same_loop (a : List Int) (hm : a.length ≤ 10000000) (d : Nat) : ∀ (k i : Nat), i + d = a.length → d < k → arrearslaw6_same.l0 k a a (i : Int) = some true := by
  induction d with
  | zero =>
    intro k i hi hk
    obtain ⟨k, rfl⟩ : ∃ m, k = m + 1 := ⟨k - 1, by omega⟩
    simp only [arrearslaw6_same.l0]
    rw [if_neg (by omega)]
  | succ d ih =>
    intro k i hi hk
    obtain ⟨k, rfl⟩ : ∃ m, k = m + 1 := ⟨k - 1, by omega⟩
    simp only [arrearslaw6_same.l0, if_true]
    rw [if_pos (by omega), if_pos (by omega), if_pos (by omega), show wrap64 ((i : Int) + 1) = ((i + 1 : Nat) : Int) from by rw [pl_w64 (by omega) (by omega)]; omega, ih k (i + 1) (by omega) (by omega)]
theorem same_self (a : List Int) (hm : a.length ≤ 10000000) (k : Nat) (hk : a.length < k) : arrearslaw6_same.f k a a = some true := by
  unfold arrearslaw6_same.f
  rw [if_pos rfl]
  exact same_loop a hm a.length k 0 (by omega) hk
end Doc
end Go.Proofs.YtgfjmpnlkjocaaaDoor.J
