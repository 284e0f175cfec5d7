/- WirePutsList: of all lists (of bulk up to the bound) the law's answer is true: PutList with PutInt tells the document's list. -/
import Derived.Test.YtebjppnggjnghaaHWireC
import Derived.Test.YtebjppnggjnghaaHx12
namespace Go.Proofs.Ytebjppnggjnghaa.H
open Go.RowKit Go.Proofs.YtebjppnggjnghaaW.PrintWords Go.Proofs.YtebjppnggjnghaaW.PrintLast Go.Proofs.YtebjppnggjnghaaW.PrintMore
set_option linter.unusedVariables false
set_option linter.unusedSimpArgs false

def WirePutsList_Pure : Prop := ∀ (l0 : List Int), ((∀ x_ ∈ l0, (Lit.int .i64 x_).wf = true) ∧ l0.length * 8 ≤ 140737488351232 ∧ l0.length ≤ 1048576) → ∃ k, arrearslaw4_WirePutsList.f k l0 = some true
theorem WirePutsList_pure : WirePutsList_Pure := by
  intro l0 h0
  have hw : ∀ x ∈ l0, -9223372036854775808 ≤ x ∧ x ≤ 9223372036854775807 := fun x hx => by simpa [Lit.wf, IntKind.min, IntKind.max, IntKind.bits, IntKind.signed] using h0.1 x hx
  have hl : l0.length ≤ 1048576 := h0.2.2
  have ht := tells_len l0 hw
  have hlen := enc_ten (l0.length : Int) (by omega) (by omega)
  refine ⟨12 * l0.length + 100, ?_⟩
  unfold arrearslaw4_WirePutsList.f
  rw [nums_is l0 hl, Option.bind_some, putlist_is l0 hw hl _ (by omega), Option.bind_some, putints_is l0 hw hl _ (by omega), Option.bind_some,
    arrearslaw4_told.same_is _ _ (by rw [List.length_append]; omega) _ (by rw [List.length_append]; omega), decide_eq_true rfl, Option.bind_some, if_pos rfl, sameNums_self l0 hl _ (by omega)]
  rfl
end Go.Proofs.Ytebjppnggjnghaa.H
