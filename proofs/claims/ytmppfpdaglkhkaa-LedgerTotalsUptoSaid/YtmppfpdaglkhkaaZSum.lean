/- The reference's exact sum of at most a million whole numbers of 64 bits: the sum and true where it fits, 0 and false else. -/
import Derived.Test.YtmppfpdaglkhkaaZx1
namespace Go.Proofs.Ytmppfpdaglkhkaa.Z
open Go.RowKit Go.Proofs.YtmppfpdaglkhkaaW.PrintWords Go.Proofs.YtmppfpdaglkhkaaW.PrintLast
set_option linter.unusedVariables false

theorem pl_w64 {x : Int} (h0 : -9223372036854775808 ≤ x) (h1 : x ≤ 9223372036854775807) : wrap64 x = x := by unfold wrap64; omega
theorem pl_rd (l : List Int) (i : Nat) (h : i < l.length) : rd l (i : Int) = l[i] := by unfold rd; simp [h]
theorem pl_sum_take (l : List Int) (i : Nat) (h : i < l.length) : (l.take (i + 1)).sum = (l.take i).sum + rd l (i : Int) := by
  rw [List.take_succ_eq_append_getElem h, List.sum_append_int, pl_rd l i h]; simp
def pl_fits (s : Int) : Int × Bool := if -9223372036854775808 ≤ s ∧ s ≤ 9223372036854775807 then (s, true) else (0, false)
theorem pl_joined (h l : Int) (h0 : -4611686018427387904 ≤ h) (h1 : h ≤ 4611686018427387904) (l0 : 0 ≤ l) (l1 : l ≤ 9007199254740992) : arrearsref1_joined.f h l = some (pl_fits (h * 4294967296 + l)) := by
  unfold arrearsref1_joined.f pl_fits
  rw [pl_w64 (x := h + l / 4294967296) (by omega) (by omega)]
  by_cases c : h + l / 4294967296 < -2147483648
  · rw [if_pos c, if_neg (by omega)]
  · rw [if_neg c]
    by_cases c2 : h + l / 4294967296 > 2147483647
    · rw [if_pos c2, if_neg (by omega)]
    · rw [if_neg c2, if_pos (by omega), pl_w64 (x := (h + l / 4294967296) * 4294967296) (by omega) (by omega), pl_w64 (x := l / 4294967296 * 4294967296) (by omega) (by omega), pl_w64 (x := l - l / 4294967296 * 4294967296) (by omega) (by omega),
        pl_w64 (by omega) (by omega)]
      congr 2; omega
theorem pl_low (x : Int) (h0 : -9223372036854775808 ≤ x) (h1 : x ≤ 9223372036854775807) : arrearsref1_lowOf.f x = some (x % 4294967296) := by
  unfold arrearsref1_lowOf.f arrearsref1_high.f
  simp only [Option.bind_some]
  rw [pl_w64 (x := x / 4294967296 * 4294967296) (by omega) (by omega), pl_w64 (by omega) (by omega)]
  congr 1; omega
theorem pl_sum_loop (l : List Int) (hr : ∀ x ∈ l, -9223372036854775808 ≤ x ∧ x ≤ 9223372036854775807) (hl : l.length ≤ 2000000) (d : Nat) : ∀ (k i : Nat) (h lo : Int), i + d = l.length → d < k →
    h * 4294967296 + lo = (l.take i).sum → -(i : Int) * 2147483648 ≤ h → h ≤ (i : Int) * 2147483648 → 0 ≤ lo → lo ≤ (i : Int) * 4294967296 → arrearsref1_Sum.l0 k l h lo (i : Int) = some (pl_fits l.sum) := by
  induction d with
  | zero =>
    intro k i h lo hi hk hs h0 h1 l0 l1
    obtain ⟨k, rfl⟩ : ∃ m, k = m + 1 := ⟨k - 1, by omega⟩
    simp only [arrearsref1_Sum.l0]
    rw [if_neg (by omega), pl_joined h lo (by omega) (by omega) l0 (by omega), hs, List.take_of_length_le (by omega)]
    simp only [Option.bind_some]
  | succ d ih =>
    intro k i h lo hi hk hs h0 h1 l0 l1
    obtain ⟨k, rfl⟩ : ∃ m, k = m + 1 := ⟨k - 1, by omega⟩
    have hb : -9223372036854775808 ≤ rd l (i : Int) ∧ rd l (i : Int) ≤ 9223372036854775807 := by rw [pl_rd l i (by omega)]; exact hr _ (List.getElem_mem _)
    simp only [arrearsref1_Sum.l0]
    rw [if_pos (by omega), if_pos (by omega), pl_low _ hb.1 hb.2]
    unfold arrearsref1_high.f
    simp only [Option.bind_some]
    rw [pl_w64 (x := h + rd l (i : Int) / 4294967296) (by omega) (by omega), pl_w64 (x := lo + rd l (i : Int) % 4294967296) (by omega) (by omega), pl_w64 (x := (i : Int) + 1) (by omega) (by omega)]
    have e : ((i : Int) + 1) = ((i + 1 : Nat) : Int) := by omega
    rw [e]
    exact ih k (i + 1) _ _ (by omega) (by omega) (by rw [pl_sum_take l i (by omega)]; omega) (by omega) (by omega) (by omega) (by omega)
/-- The sum. -/
theorem pl_Sum (l : List Int) (hr : ∀ x ∈ l, -9223372036854775808 ≤ x ∧ x ≤ 9223372036854775807) (hl : l.length ≤ 2000000) (k : Nat) (hk : l.length < k) : arrearsref1_Sum.f k l = some (pl_fits l.sum) := by
  unfold arrearsref1_Sum.f
  exact pl_sum_loop l hr hl l.length k 0 0 0 (by omega) hk (by simp) (by omega) (by omega) (by omega) (by omega)
end Go.Proofs.Ytmppfpdaglkhkaa.Z
