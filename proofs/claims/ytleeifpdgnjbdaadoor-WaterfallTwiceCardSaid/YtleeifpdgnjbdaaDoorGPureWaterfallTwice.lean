/- WaterfallTwice: of all orders, owed amounts and two payments the law's answer is true: two payments one behind the other come to the same as their sum. -/
import Derived.Test.YtleeifpdgnjbdaaDoorGWaterA
import Derived.Test.YtleeifpdgnjbdaaDoorGx11
import Derived.Test.YtleeifpdgnjbdaaDoorGx10
namespace Go.Proofs.YtleeifpdgnjbdaaDoor.G
open Go.RowKit Go.Proofs.YtleeifpdgnjbdaaDoorW.PrintWords Go.Proofs.YtleeifpdgnjbdaaDoorW.PrintLast Go.Proofs.YtleeifpdgnjbdaaDoorW.PrintMore
set_option linter.unusedVariables false
set_option linter.unusedSimpArgs false

/-- One place, paid twice. -/
theorem twice_mn (w x y : Int) (hw : 0 ≤ w) (hx : 0 ≤ x) (hy : 0 ≤ y) : mn w (x + y) = mn w x + mn (w - mn w x) y := by
  unfold mn
  split <;> split <;> split <;> omega
theorem payable_is (o F I P a : Int) : arrearslaw9_payable.f o F I P a = some (decide (0 ≤ o ∧ o ≤ 5 ∧ 0 ≤ F ∧ 0 ≤ I ∧ 0 ≤ P ∧ 1 ≤ a)) := by
  unfold arrearslaw9_payable.f
  repeat' split
  all_goals (congr 1; first | (rw [decide_eq_decide]; omega) | (symm; apply decide_eq_false; omega))
theorem twice_g {u v x a b : Int} (hu : 0 ≤ u) (hv : 0 ≤ v) (hx : 0 ≤ x) (ha : 0 ≤ a) (hb : 0 ≤ b) :
    g0 u (a + b) = g0 u a + g0 (u - g0 u a) b ∧ g1 u v (a + b) = g1 u v a + g1 (u - g0 u a) (v - g1 u v a) b ∧ g2 u v x (a + b) = g2 u v x a + g2 (u - g0 u a) (v - g1 u v a) (x - g2 u v x a) b ∧
      g3 u v x (a + b) = g3 u v x a + g3 (u - g0 u a) (v - g1 u v a) (x - g2 u v x a) b := by
  have ra := g_range u v x a hu hv hx ha
  have rb := g_range (u - g0 u a) (v - g1 u v a) (x - g2 u v x a) b (by omega) (by omega) (by omega) hb
  have e0 : g0 u (a + b) = g0 u a + g0 (u - g0 u a) b := twice_mn u a b hu ha hb
  have e1 : g1 u v (a + b) = g1 u v a + g1 (u - g0 u a) (v - g1 u v a) b := by
    show mn v (a + b - g0 u (a + b)) = _
    rw [e0, show a + b - (g0 u a + g0 (u - g0 u a) b) = (a - g0 u a) + (b - g0 (u - g0 u a) b) from by omega]
    exact twice_mn v _ _ hv (by omega) (by omega)
  have e2 : g2 u v x (a + b) = g2 u v x a + g2 (u - g0 u a) (v - g1 u v a) (x - g2 u v x a) b := by
    show mn x (a + b - g0 u (a + b) - g1 u v (a + b)) = _
    rw [e0, e1, show a + b - (g0 u a + g0 (u - g0 u a) b) - (g1 u v a + g1 (u - g0 u a) (v - g1 u v a) b) = (a - g0 u a - g1 u v a) + (b - g0 (u - g0 u a) b - g1 (u - g0 u a) (v - g1 u v a) b) from by omega]
    exact twice_mn x _ _ hx (by omega) (by omega)
  refine ⟨e0, e1, e2, ?_⟩
  have rs := g_range u v x (a + b) hu hv hx (by omega)
  omega
def WaterfallTwice_Pure : Prop := ∀ (B1 : Nat) (a0 : Int) (x1 : S23) (a2 : Int) (a3 : Int), ((Lit.int .i64 a0).wf = true) → (WF23 B1 x1) → ((Lit.int .i64 a2).wf = true) → ((Lit.int .i64 a3).wf = true) → ∃ k, arrearslaw9_WaterfallTwice.f k a0 x1.f0 x1.f1 x1.f2 a2 a3 = some true
theorem WaterfallTwice_pure : WaterfallTwice_Pure := by
  intro B1 o x1 a b _ hx h2 h3
  have hX : ((-9223372036854775808 ≤ x1.f0 ∧ x1.f0 ≤ 9223372036854775807) ∧ (-9223372036854775808 ≤ x1.f1 ∧ x1.f1 ≤ 9223372036854775807) ∧ (-9223372036854775808 ≤ x1.f2 ∧ x1.f2 ≤ 9223372036854775807)) := by
    unfold WF23 at hx
    simpa [Lit.wf, IntKind.min, IntKind.max, IntKind.bits, IntKind.signed] using hx
  obtain ⟨F, I, P⟩ := x1
  have ra : -9223372036854775808 ≤ a ∧ a ≤ 9223372036854775807 := by simpa [Lit.wf, IntKind.min, IntKind.max, IntKind.bits, IntKind.signed] using h2
  have rb : -9223372036854775808 ≤ b ∧ b ≤ 9223372036854775807 := by simpa [Lit.wf, IntKind.min, IntKind.max, IntKind.bits, IntKind.signed] using h3
  refine ⟨2, ?_⟩
  unfold arrearslaw9_WaterfallTwice.f
  dsimp only at hX ⊢
  rw [payable_is, Option.bind_some]
  by_cases c : 0 ≤ o ∧ o ≤ 5 ∧ 0 ≤ F ∧ 0 ≤ I ∧ 0 ≤ P ∧ 1 ≤ a
  · rw [decide_eq_true c, if_pos rfl]
    by_cases c2 : b < 1
    · rw [if_pos c2]; simp only [arrearslaw9_WaterfallTwice.j0]; rfl
    · rw [if_neg c2, pl_w64 (x := 9223372036854775807 - a) (by omega) (by omega)]
      simp only [arrearslaw9_WaterfallTwice.j0]
      by_cases c3 : b > 9223372036854775807 - a
      · rw [decide_eq_true c3, if_pos rfl]
      · rw [decide_eq_false c3, if_neg (by simp)]
        obtain ⟨o0, o5, hF, hI, hP, a1⟩ := c
        have hm := ra.2
        rw [prog_parts ⟨hF, hI, hP, o0, by omega, a1, hm⟩, Option.bind_some]
        have nn := fun (z : Int) => want_nn ⟨hF, hI, hP, o0, show o < 6 by omega, a1, hm⟩ z
        have r1 := g_range _ _ _ a (nn (waterfall_Order.kind o 0)) (nn (waterfall_Order.kind o 1)) (nn (waterfall_Order.kind o 2)) (by omega)
        have rs := g_range _ _ _ (a + b) (nn (waterfall_Order.kind o 0)) (nn (waterfall_Order.kind o 1)) (nn (waterfall_Order.kind o 2)) (by omega)
        have tw := twice_g (nn (waterfall_Order.kind o 0)) (nn (waterfall_Order.kind o 1)) (nn (waterfall_Order.kind o 2)) (show 0 ≤ a by omega) (show 0 ≤ b by omega)
        rw [pl_w64 (x := a + b) (by omega) (by omega), prog_parts ⟨hF, hI, hP, o0, by omega, show 1 ≤ a + b by omega, by omega⟩]
        have second : waterfall_Allocate.f o (wrap64 (F - (parts o F I P a).1)) (wrap64 (I - (parts o F I P a).2.1)) (wrap64 (P - (parts o F I P a).2.2.1)) b = some (parts o (F - (parts o F I P a).1) (I - (parts o F I P a).2.1) (P - (parts o F I P a).2.2.1) b) ∧
            (parts o (F - (parts o F I P a).1) (I - (parts o F I P a).2.1) (P - (parts o F I P a).2.2.1) b) = (let p := parts o F I P a; let s := parts o F I P (a + b); (s.1 - p.1, s.2.1 - p.2.1, s.2.2.1 - p.2.2.1, s.2.2.2.1 - p.2.2.2.1, 0, 0)) ∧
            (let p := parts o F I P a; let s := parts o F I P (a + b); 0 ≤ p.1 ∧ 0 ≤ p.2.1 ∧ 0 ≤ p.2.2.1 ∧ 0 ≤ p.2.2.2.1 ∧ p.1 ≤ s.1 ∧ p.2.1 ≤ s.2.1 ∧ p.2.2.1 ≤ s.2.2.1 ∧ p.2.2.2.1 ≤ s.2.2.2.1 ∧ s.1 + s.2.1 + s.2.2.1 + s.2.2.2.1 = a + b) := by
          have key : ∀ F' I' P' : Int, F' = F - (parts o F I P a).1 → I' = I - (parts o F I P a).2.1 → P' = P - (parts o F I P a).2.2.1 → 0 ≤ F' ∧ 0 ≤ I' ∧ 0 ≤ P' ∧
              want F' I' P' (waterfall_Order.kind o 0) = want F I P (waterfall_Order.kind o 0) - g0 (want F I P (waterfall_Order.kind o 0)) a ∧
              want F' I' P' (waterfall_Order.kind o 1) = want F I P (waterfall_Order.kind o 1) - g1 (want F I P (waterfall_Order.kind o 0)) (want F I P (waterfall_Order.kind o 1)) a ∧
              want F' I' P' (waterfall_Order.kind o 2) = want F I P (waterfall_Order.kind o 2) - g2 (want F I P (waterfall_Order.kind o 0)) (want F I P (waterfall_Order.kind o 1)) (want F I P (waterfall_Order.kind o 2)) a := by
            intro F' I' P' e1 e2 e3
            clear tw rs
            rcases six o0 (show o < 6 by omega) with rfl | rfl | rfl | rfl | rfl | rfl <;>
              simp [parts, byKind, want, waterfall_Order.kind] at e1 e2 e3 r1 ⊢ <;> (subst e1 e2 e3; refine ⟨by omega, by omega, by omega, rfl, rfl, rfl⟩)
          obtain ⟨k1, k2, k3, k4, k5, k6⟩ := key _ _ _ rfl rfl rfl
          have rp : 0 ≤ (parts o F I P a).1 ∧ 0 ≤ (parts o F I P a).2.1 ∧ 0 ≤ (parts o F I P a).2.2.1 := by
            rcases six o0 (show o < 6 by omega) with rfl | rfl | rfl | rfl | rfl | rfl <;> simp [parts, byKind] <;> omega
          refine ⟨?_, ?_, ?_⟩
          · rw [pl_w64 (by omega) (by omega), pl_w64 (by omega) (by omega), pl_w64 (by omega) (by omega)]
            exact prog_parts ⟨k1, k2, k3, o0, by omega, by omega, rb.2⟩
          · rw [parts, k4, k5, k6]
            obtain ⟨e0, e1, e2, e3⟩ := tw
            rcases six o0 (show o < 6 by omega) with rfl | rfl | rfl | rfl | rfl | rfl <;> simp [parts, byKind, e0, e1, e2, e3] <;> refine ⟨by omega, by omega, by omega, by omega⟩
          · have rb2 := g_range _ _ _ b (show 0 ≤ want F I P (waterfall_Order.kind o 0) - g0 (want F I P (waterfall_Order.kind o 0)) a by omega) (show 0 ≤ want F I P (waterfall_Order.kind o 1) - g1 (want F I P (waterfall_Order.kind o 0)) (want F I P (waterfall_Order.kind o 1)) a by omega) (show 0 ≤ want F I P (waterfall_Order.kind o 2) - g2 (want F I P (waterfall_Order.kind o 0)) (want F I P (waterfall_Order.kind o 1)) (want F I P (waterfall_Order.kind o 2)) a by omega) (show 0 ≤ b by omega)
            obtain ⟨e0, e1, e2, e3⟩ := tw
            rcases six o0 (show o < 6 by omega) with rfl | rfl | rfl | rfl | rfl | rfl <;> simp [parts, byKind] <;> omega
        obtain ⟨s1, s2, s3⟩ := second
        rw [s1, Option.bind_some, Option.bind_some, s2]
        have z : (parts o F I P a).2.2.2.2 = (0, 0) ∧ (parts o F I P (a + b)).2.2.2.2 = (0, 0) := ⟨rfl, rfl⟩
        generalize parts o F I P a = p at *
        generalize parts o F I P (a + b) = s at *
        obtain ⟨p1, p2, p3, p4, p5, p6⟩ := p
        obtain ⟨s1', s2', s3', s4', s5, s6⟩ := s
        simp only [Prod.mk.injEq] at z
        obtain ⟨⟨rfl, rfl⟩, rfl, rfl⟩ := z
        dsimp only at s3 ⊢
        rw [if_pos rfl, if_pos rfl, if_pos rfl, pl_w64 (x := s1' + s2') (by omega) (by omega), pl_w64 (x := s1' + s2' + s3') (by omega) (by omega), pl_w64 (x := s1' + s2' + s3' + s4') (by omega) (by omega), if_pos (by omega),
          pl_w64 (x := p1 + (s1' - p1)) (by omega) (by omega), pl_w64 (x := p2 + (s2' - p2)) (by omega) (by omega), pl_w64 (x := p3 + (s3' - p3)) (by omega) (by omega), pl_w64 (x := p4 + (s4' - p4)) (by omega) (by omega), show wrap64 ((0 : Int) + 0) = 0 from by unfold wrap64; omega,
          show p1 + (s1' - p1) = s1' from by omega, show p2 + (s2' - p2) = s2' from by omega, show p3 + (s3' - p3) = s3' from by omega, show p4 + (s4' - p4) = s4' from by omega, equal_self]
        rfl
  · rw [decide_eq_false c, if_neg (by simp)]; simp only [arrearslaw9_WaterfallTwice.j0]; rfl
end Go.Proofs.YtleeifpdgnjbdaaDoor.G
