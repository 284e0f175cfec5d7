/- FrameScans: of every file the law's answer is true: what Scan tells is the document's answer, of another file in the same place, too; the first answers stand. No condition but the bytes' range. -/
import Derived.Test.YtgfjmpnlkjocaaaDoorSFrameE
import Derived.Test.YtgfjmpnlkjocaaaDoorSx5
namespace Go.Proofs.YtgfjmpnlkjocaaaDoor.S
open Go.RowKit Go.Proofs.YtgfjmpnlkjocaaaDoorW.PrintWords Go.Proofs.YtgfjmpnlkjocaaaDoorW.PrintLast Go.Proofs.YtgfjmpnlkjocaaaDoorW.PrintMore
set_option linter.unusedVariables false
set_option linter.unusedSimpArgs false

def FrameScans_Pure : Prop := ∀ (B0 : Nat) (l0 : List Int), ((∀ x_ ∈ l0, (Lit.int .u8 x_).wf = true) ∧ l0.length * 1 ≤ 140737488351232 ∧ l0.length ≤ B0) → ∃ k, arrearslaw6_FrameScans.f k l0 = some true
theorem FrameScans_pure : FrameScans_Pure := by
  intro B1 l h0
  have hb : Bytes l := fun x hx => by simpa [Lit.wf, IntKind.min, IntKind.max, IntKind.bits, IntKind.signed] using h0.1 x hx
  by_cases c : (l.length : Int) > 6000000
  · refine ⟨0, ?_⟩
    unfold arrearslaw6_FrameScans.f
    rw [if_pos c]
  have hl : l.length ≤ 6000000 := by omega
  refine ⟨2 * l.length + 5000000 + 1, ?_⟩
  generalize hk : 2 * l.length + 5000000 = k
  unfold arrearslaw6_FrameScans.f
  have tk : (l ++ marks 0 5).take ((l.length : Int)).toNat = l := by rw [show ((l.length : Int)).toNat = l.length from by omega, List.take_left]
  obtain ⟨p, n, t, d1, d2, d3, d4⟩ := scan_same l hb (by omega) (k + 1) (by omega)
  rw [if_neg c, roomy_is l hl _ (by omega), Option.bind_some, if_pos (by omega), if_pos (by rw [List.length_append]; omega), tk, d1, Option.bind_some, d2, Option.bind_some, alike_self p d3 (by omega) _ (by omega), Option.bind_some, if_pos rfl, if_pos rfl, if_pos rfl,
    Option.bind_some, same_self _ (by rw [List.length_append]; simp [marks]; omega) _ (by rw [List.length_append]; simp [marks]; omega), Option.bind_some]
  rw [arrearslaw6_FrameScans.j0]
  obtain ⟨o, y, ht, hy, ho, hlo⟩ := turned_is l (marks 0 5) hb hl k (by omega)
  obtain ⟨q, m, u, e1, e2, e3, e4⟩ := scan_same o ho (by omega) k (by omega)
  rw [if_neg (by simp), ht, Option.bind_some, if_pos (by omega), if_pos (by rw [List.length_append]; omega), show y.take ((l.length : Int)).toNat = o from by rw [show ((l.length : Int)).toNat = l.length from by omega]; exact hy, e1, Option.bind_some]
  rw [e2, Option.bind_some, alike_self q e3 (by omega) _ (by omega), Option.bind_some, if_pos rfl, if_pos rfl, if_pos rfl, alike_self p d3 (by omega) _ (by omega), Option.bind_some]
end Go.Proofs.YtgfjmpnlkjocaaaDoor.S
