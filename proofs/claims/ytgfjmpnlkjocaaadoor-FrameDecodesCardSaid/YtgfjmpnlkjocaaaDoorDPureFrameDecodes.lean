/- FrameDecodes: of every file and every place the law's answer is true: what Decode tells is the document's answer, of another file in the same place, too. No condition but the bytes' range. -/
import Derived.Test.YtgfjmpnlkjocaaaDoorDFrameD
import Derived.Test.YtgfjmpnlkjocaaaDoorDFrameL
import Derived.Test.YtgfjmpnlkjocaaaDoorDx3
import Derived.Test.YtgfjmpnlkjocaaaDoorDx4
namespace Go.Proofs.YtgfjmpnlkjocaaaDoor.D
open Go.RowKit Go.Proofs.YtgfjmpnlkjocaaaDoorW.PrintWords Go.Proofs.YtgfjmpnlkjocaaaDoorW.PrintLast Go.Proofs.YtgfjmpnlkjocaaaDoorW.PrintMore
set_option linter.unusedVariables false
set_option linter.unusedSimpArgs false

theorem decode_same (l : List Int) (hb : Bytes l) (hl : l.length ≤ 20000000) (a1 : Int) (k : Nat) (hk : l.length + 110 < k) :
    ∃ p n t, frame_Decode.f l a1 = some (p, n, t) ∧ arrearsref6_Decode.f k l a1 = some (p, n, t) ∧ p.length ≤ 4194304 := by
  obtain ⟨k, rfl⟩ : ∃ m, k = m + 1 := ⟨k - 1, by omega⟩
  unfold frame_Decode.f arrearsref6_Decode.f
  by_cases c0 : a1 < 0
  · rw [if_pos (Or.inl c0), if_pos c0]
    simp only [arrearsref6_Decode.j0, if_true]
    exact ⟨_, _, _, rfl, rfl, by simp⟩
  rw [if_neg c0]
  by_cases c1 : (l.length : Int) < a1
  · rw [if_pos (Or.inr c1), show decide (a1 > (l.length : Int)) = true from decide_eq_true c1]
    simp only [arrearsref6_Decode.j0, if_true]
    exact ⟨_, _, _, rfl, rfl, by simp⟩
  rw [if_neg (by omega), show decide (a1 > (l.length : Int)) = false from decide_eq_false c1]
  obtain ⟨a, rfl⟩ := Int.eq_ofNat_of_zero_le (show 0 ≤ a1 by omega)
  simp only [arrearsref6_Decode.j0]
  rw [if_neg (by simp), Int.toNat_natCast, nx_is l hb a (by omega) hl, there_is l hb a (by omega) hl k (by omega), Option.bind_some, Option.bind_some]
  by_cases c2 : (spec l a).1 = true
  · obtain ⟨h0, h1, h2, h3⟩ := spec_whole (by omega) hb c2
    rw [if_pos c2, if_pos c2, piece_is l a _ h0 (by omega) hl k (by omega), Option.bind_some]
    refine ⟨_, _, _, rfl, ?_, by rw [pay_len h0 (by omega)]; omega⟩
    rw [pl_w64 (x := (a : Int) + _) (by omega) (by omega), pl_w64 (by omega) (by omega)]
    simp only [Option.some.injEq, Prod.mk.injEq, true_and, and_true]
    omega
  · rw [if_neg c2, if_neg c2]
    exact ⟨_, _, _, rfl, rfl, by simp⟩
def FrameDecodes_Pure : Prop := ∀ (B0 : Nat) (l0 : List Int) (a1 : Int), ((∀ x_ ∈ l0, (Lit.int .u8 x_).wf = true) ∧ l0.length * 1 ≤ 140737488351232 ∧ l0.length ≤ B0) → ((Lit.int .i64 a1).wf = true) → ∃ k, arrearslaw6_FrameDecodes.f k l0 a1 = some true
theorem FrameDecodes_pure : FrameDecodes_Pure := by
  intro B1 l a h0 h1
  have hb : Bytes l := fun x hx => by simpa [Lit.wf, IntKind.min, IntKind.max, IntKind.bits, IntKind.signed] using h0.1 x hx
  by_cases c : (l.length : Int) > 6000000
  · refine ⟨0, ?_⟩
    unfold arrearslaw6_FrameDecodes.f
    rw [if_pos c]
  have hl : l.length ≤ 6000000 := by omega
  refine ⟨l.length + 5000000 + 1, ?_⟩
  generalize hk : l.length + 5000000 = k
  unfold arrearslaw6_FrameDecodes.f
  have tk : (l ++ marks 0 5).take ((l.length : Int)).toNat = l := by rw [show ((l.length : Int)).toNat = l.length from by omega, List.take_left]
  obtain ⟨p, n, t, d1, d2, d3⟩ := decode_same l hb (by omega) a (k + 1) (by omega)
  rw [if_neg c, roomy_is l hl _ (by omega), Option.bind_some, if_pos (by omega), if_pos (by rw [List.length_append]; omega), tk, d1, Option.bind_some, d2, Option.bind_some, same_self p (by omega) _ (by omega), Option.bind_some, if_pos rfl, if_pos rfl, if_pos rfl,
    Option.bind_some, same_self _ (by rw [List.length_append]; simp [marks]; omega) _ (by rw [List.length_append]; simp [marks]; omega), Option.bind_some]
  rw [arrearslaw6_FrameDecodes.j0]
  obtain ⟨o, y, ht, hy, ho, hlo⟩ := turned_is l (marks 0 5) hb hl k (by omega)
  obtain ⟨q, m, u, e1, e2, e3⟩ := decode_same o ho (by omega) a k (by omega)
  rw [if_neg (by simp), ht, Option.bind_some, if_pos (by omega), if_pos (by rw [List.length_append]; omega), show y.take ((l.length : Int)).toNat = o from by rw [show ((l.length : Int)).toNat = l.length from by omega]; exact hy, e1, Option.bind_some]
  rw [e2, Option.bind_some, same_self q (by omega) _ (by omega), Option.bind_some, if_pos rfl, if_pos rfl, if_pos rfl, same_self p (by omega) _ (by omega), Option.bind_some]
end Go.Proofs.YtgfjmpnlkjocaaaDoor.D
