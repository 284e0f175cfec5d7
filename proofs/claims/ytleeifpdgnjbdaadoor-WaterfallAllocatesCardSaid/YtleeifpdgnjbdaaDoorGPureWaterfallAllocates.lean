/- WaterfallAllocates: of all orders, owed amounts and payments the law's answer is true: Order and Allocate are the document's, every part and the error. -/
import Derived.Test.YtleeifpdgnjbdaaDoorGWaterA
import Derived.Test.YtleeifpdgnjbdaaDoorGx9
namespace Go.Proofs.YtleeifpdgnjbdaaDoor.G
open Go.RowKit Go.Proofs.YtleeifpdgnjbdaaDoorW.PrintWords Go.Proofs.YtleeifpdgnjbdaaDoorW.PrintLast Go.Proofs.YtleeifpdgnjbdaaDoorW.PrintMore
set_option linter.unusedVariables false
set_option linter.unusedSimpArgs false

theorem order_same (o : Int) : arrearsref9_Order.f o = waterfall_Order.f o := by
  unfold arrearsref9_Order.f waterfall_Order.f
  by_cases c : o < 0
  · rw [turn_bad o (.inl c), Option.bind_some, if_pos (by omega), if_pos c]
  · by_cases c2 : o ≥ 6
    · rw [turn_bad o (.inr c2), Option.bind_some, if_pos (by omega), if_neg c, if_pos c2]
    · have t0 : arrearsref9_Turn.f 50 o 0 = some (waterfall_Order.kind o 0) := turn_is o (by omega) (by omega) 0 (by omega) 50 (by omega)
      have t1 : arrearsref9_Turn.f 50 o 1 = some (waterfall_Order.kind o 1) := turn_is o (by omega) (by omega) 1 (by omega) 50 (by omega)
      have t2 : arrearsref9_Turn.f 50 o 2 = some (waterfall_Order.kind o 2) := turn_is o (by omega) (by omega) 2 (by omega) 50 (by omega)
      have kp : 0 ≤ waterfall_Order.kind o 0 := by rcases six (o := o) (by omega) (by omega) with rfl | rfl | rfl | rfl | rfl | rfl <;> decide
      rw [t0, Option.bind_some, if_neg (by omega), t1, Option.bind_some, t2, Option.bind_some, if_neg c, if_neg c2]
def WaterfallAllocates_Pure : Prop := ∀ (B1 : Nat) (a0 : Int) (x1 : S23) (a2 : Int), ((Lit.int .i64 a0).wf = true) → (WF23 B1 x1) → ((Lit.int .i64 a2).wf = true) → ∃ k, arrearslaw9_WaterfallAllocates.f k a0 x1.f0 x1.f1 x1.f2 a2 = some true
theorem WaterfallAllocates_pure : WaterfallAllocates_Pure := by
  intro B1 a0 x1 a2 _ _ h2
  obtain ⟨F, I, P⟩ := x1
  have hm : a2 ≤ 9223372036854775807 := by
    have : -9223372036854775808 ≤ a2 ∧ a2 ≤ 9223372036854775807 := by simpa [Lit.wf, IntKind.min, IntKind.max, IntKind.bits, IntKind.signed] using h2
    exact this.2
  refine ⟨101, ?_⟩
  unfold arrearslaw9_WaterfallAllocates.f
  dsimp only
  rw [order_same]
  obtain ⟨q, hq⟩ : ∃ q, waterfall_Order.f a0 = some q := by unfold waterfall_Order.f; exact ⟨_, rfl⟩
  have same : ∃ r, waterfall_Allocate.f a0 F I P a2 = some r ∧ arrearsref9_Allocate.f 100 a0 F I P a2 = some r := by
    by_cases c : a0 < 0 ∨ 6 ≤ a0 ∨ F < 0 ∨ I < 0 ∨ P < 0
    · exact ⟨_, prog_bad _ _ _ _ _ c, ref_bad _ _ _ _ _ c 100 (by omega)⟩
    · by_cases d : a2 < 1
      · exact ⟨_, prog_small a0 F I P a2 (by omega) (by omega) (by omega) (by omega) (by omega) d, ref_small a0 F I P a2 (by omega) (by omega) (by omega) (by omega) (by omega) d 100 (by omega)⟩
      · exact ⟨_, prog_parts ⟨by omega, by omega, by omega, by omega, by omega, by omega, hm⟩, ref_parts ⟨by omega, by omega, by omega, by omega, by omega, by omega, hm⟩ (by omega)⟩
  obtain ⟨r, h1, h3⟩ := same
  rw [hq, Option.bind_some, Option.bind_some, if_pos rfl, if_pos rfl, if_pos rfl]
  simp only [arrearslaw9_WaterfallAllocates.j0]
  simp [h1, h3, equal_self]
end Go.Proofs.YtleeifpdgnjbdaaDoor.G
