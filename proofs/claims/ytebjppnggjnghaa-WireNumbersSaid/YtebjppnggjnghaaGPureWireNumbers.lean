/- WireNumbers: of all numbers, all bytes and all places the law's answer is true: any number's telling is the document's; what is read at any place of any bytes is the same; the bytes stay. -/
import Derived.Test.YtebjppnggjnghaaGWireB
import Derived.Test.YtebjppnggjnghaaGx9
namespace Go.Proofs.Ytebjppnggjnghaa.G
open Go.RowKit Go.Proofs.YtebjppnggjnghaaW.PrintWords Go.Proofs.YtebjppnggjnghaaW.PrintLast Go.Proofs.YtebjppnggjnghaaW.PrintMore
set_option linter.unusedVariables false

theorem told_is (x : List Int) (h : x.length ≤ 1000) : arrearslaw4_told.f x x x = some true := by
  unfold arrearslaw4_told.f
  rw [if_pos (by omega)]; simp
def WireNumbers_Pure : Prop := ∀ (a0 : Int) (a1 : Int) (l2 : List Int) (a3 : Int), ((Lit.int .u64 a0).wf = true) → ((Lit.int .i64 a1).wf = true) → ((∀ x_ ∈ l2, (Lit.int .u8 x_).wf = true) ∧ l2.length * 1 ≤ 140737488351232) → ((Lit.int .i64 a3).wf = true) → ∃ k, arrearslaw4_WireNumbers.f k a0 a1 l2 a3 = some true
theorem WireNumbers_pure : WireNumbers_Pure := by
  intro a0 a1 l2 a3 h0 h1 h2 h3
  have r0 : 0 ≤ a0 ∧ a0 ≤ 18446744073709551615 := by simpa [Lit.wf, IntKind.min, IntKind.max, IntKind.bits, IntKind.signed] using h0
  have r1 : -9223372036854775808 ≤ a1 ∧ a1 ≤ 9223372036854775807 := by simpa [Lit.wf, IntKind.min, IntKind.max, IntKind.bits, IntKind.signed] using h1
  have hb : ∀ x ∈ l2, 0 ≤ x ∧ x ≤ 255 := fun x hx => by simpa [Lit.wf, IntKind.min, IntKind.max, IntKind.bits, IntKind.signed] using h2.1 x hx
  have hl : l2.length ≤ 140737488351232 := by have := h2.2; omega
  refine ⟨l2.length + 100, ?_⟩
  unfold arrearslaw4_WireNumbers.f
  have hz := zig_range a1 r1.1 r1.2
  have t1 : arrearslaw4_told.f (enc 10 a0) (enc 10 a0) (enc 10 a0) = some true := told_is _ (by have := (enc_len 10 a0).2; omega)
  have t2 : arrearslaw4_told.f (enc 10 (zig a1)) (enc 10 (zig a1)) (enc 10 (zig a1)) = some true := told_is _ (by have := (enc_len 10 (zig a1)).2; omega)
  have ht : (l2 ++ [90, 91, 92, 93]).take ((l2.length : Int)).toNat = l2 := by rw [show ((l2.length : Int)).toNat = l2.length from by omega, List.take_left]
  have ho : ∃ q, arrearsref4_Uint.f l2 a3 = some q := by unfold arrearsref4_Uint.f; rw [if_pos hb]; exact ⟨_, rfl⟩
  obtain ⟨q, hq⟩ := ho
  have hi : ∃ q, arrearsref4_Int.f l2 a3 = some q := by
    unfold arrearsref4_Int.f
    rw [hq, Option.bind_some]
    split
    · split <;> exact ⟨_, rfl⟩
    · exact ⟨_, rfl⟩
  obtain ⟨p, hp⟩ := hi
  simp only [put_prog a0 r0.1 r0.2, put_ref a0 r0.1 r0.2 (l2.length + 100) (by omega), t1, putint_prog a1 r1.1 r1.2, putint_ref a1 r1.1 r1.2 (l2.length + 100) (by omega), t2, roomy_is l2 hl (l2.length + 100) (by omega), Option.bind_some, if_true, ht, uint_same hb hl (l2.length + 100) (by omega), int_same hb hl (l2.length + 100) (by omega), hq, hp, still_is l2 hl (l2.length + 100) (by omega)]
  rw [if_pos (by omega), if_pos (by rw [List.length_append]; omega)]
  simp
end Go.Proofs.Ytebjppnggjnghaa.G
