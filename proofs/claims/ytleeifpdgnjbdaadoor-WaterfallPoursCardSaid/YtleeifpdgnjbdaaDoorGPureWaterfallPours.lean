/- WaterfallPours: of all orders, owed amounts and payments the law's answer is true: the parts are the amount whole, each kind in its turn. -/
import Derived.Test.YtleeifpdgnjbdaaDoorGWaterA
import Derived.Test.YtleeifpdgnjbdaaDoorGx7
namespace Go.Proofs.YtleeifpdgnjbdaaDoor.G
open Go.RowKit Go.Proofs.YtleeifpdgnjbdaaDoorW.PrintWords Go.Proofs.YtleeifpdgnjbdaaDoorW.PrintLast Go.Proofs.YtleeifpdgnjbdaaDoorW.PrintMore
set_option linter.unusedVariables false
set_option linter.unusedSimpArgs false

theorem pours_step (k : Nat) (i left w p F I P k0 k1 k2 q0 q1 q2 q3 q4 : Int) (full : Bool) (h0 : 0 ≤ i) (h1 : i < 3) (hof : arrearslaw9_of.f (selI [k0, k1, k2] i) F I P q0 q1 q2 q3 q4 = some (w, p))
    (p0 : 0 ≤ p) (p1 : p ≤ w) (p2 : p ≤ left) (hf : p > 0 → full = true) (hl : left ≤ 9223372036854775807) :
    arrearslaw9_WaterfallPours.l0 (k + 1) left full i F I P k0 k1 k2 q0 q1 q2 q3 q4 = arrearslaw9_WaterfallPours.l0 k (left - p) (full && (p == w)) (i + 1) F I P k0 k1 k2 q0 q1 q2 q3 q4 := by
  rw [arrearslaw9_WaterfallPours.l0, if_pos h1, if_pos h0, hof]
  simp only [Option.bind_some]
  rw [if_neg (by omega), if_neg (by omega), if_neg (by omega), pl_w64 (x := left - p) (by omega) (by omega), pl_w64 (x := i + 1) (by omega) (by omega)]
  cases full with
  | true => simp only [if_true, ite_self, Bool.true_and]
  | false =>
    have : ¬ p > 0 := fun h => by simpa using hf h
    rw [if_neg this]; simp
theorem pours_end (k : Nat) (left F I P k0 k1 k2 q0 q1 q2 q3 q4 : Int) (full : Bool) (h : q3 = left) (hf : left = 0 ∨ full = true) :
    arrearslaw9_WaterfallPours.l0 (k + 1) left full 3 F I P k0 k1 k2 q0 q1 q2 q3 q4 = some true := by
  rw [arrearslaw9_WaterfallPours.l0, if_neg (by omega), if_pos h]
  rcases hf with h | h
  · rw [if_pos h]
  · subst h; simp
theorem pours_loop (k : Nat) (a u v x G0 G1 G2 F I P k0 k1 k2 q0 q1 q2 q4 : Int)
    (o0 : arrearslaw9_of.f k0 F I P q0 q1 q2 (a - G0 - G1 - G2) q4 = some (u, G0)) (o1 : arrearslaw9_of.f k1 F I P q0 q1 q2 (a - G0 - G1 - G2) q4 = some (v, G1)) (o2 : arrearslaw9_of.f k2 F I P q0 q1 q2 (a - G0 - G1 - G2) q4 = some (x, G2))
    (z0 : 0 ≤ G0) (z1 : 0 ≤ G1) (z2 : 0 ≤ G2) (y0 : G0 ≤ u) (y1 : G1 ≤ v) (y2 : G2 ≤ x) (s0 : G0 ≤ a) (s1 : G1 ≤ a - G0) (s2 : G2 ≤ a - G0 - G1)
    (f0 : G0 < u → G0 = a) (f1 : G1 < v → G1 = a - G0) (f2 : G2 < x → G2 = a - G0 - G1) (hm : a ≤ 9223372036854775807) :
    arrearslaw9_WaterfallPours.l0 (k + 4) a true 0 F I P k0 k1 k2 q0 q1 q2 (a - G0 - G1 - G2) q4 = some true := by
  rw [pours_step (k + 3) 0 a u G0 _ _ _ _ _ _ _ _ _ _ _ true (by omega) (by omega) o0 z0 y0 s0 (fun _ => rfl) hm,
    pours_step (k + 2) (0 + 1) (a - G0) v G1 _ _ _ _ _ _ _ _ _ _ _ _ (by omega) (by omega) o1 z1 y1 s1 (fun h => by simp; omega) (by omega),
    pours_step (k + 1) (0 + 1 + 1) (a - G0 - G1) x G2 _ _ _ _ _ _ _ _ _ _ _ _ (by omega) (by omega) o2 z2 y2 s2 (fun h => by simp; omega) (by omega)]
  refine pours_end k _ _ _ _ _ _ _ _ _ _ _ _ _ rfl ?_
  by_cases c : a - G0 - G1 - G2 = 0
  · exact .inl c
  · right; simp; omega
def WaterfallPours_Pure : Prop := ∀ (B1 : Nat) (a0 : Int) (x1 : S23) (a2 : Int), ((Lit.int .i64 a0).wf = true) → (WF23 B1 x1) → ((Lit.int .i64 a2).wf = true) → ∃ k, arrearslaw9_WaterfallPours.f k a0 x1.f0 x1.f1 x1.f2 a2 = some true
theorem mn_full (u a : Int) : (mn u a < u → mn u a = a) ∧ mn u a ≤ u ∧ mn u a ≤ a := by unfold mn; split <;> omega
theorem WaterfallPours_pure : WaterfallPours_Pure := by
  intro B1 a0 x1 a2 _ _ h2
  obtain ⟨F, I, P⟩ := x1
  have hm : a2 ≤ 9223372036854775807 := by
    have : -9223372036854775808 ≤ a2 ∧ a2 ≤ 9223372036854775807 := by simpa [Lit.wf, IntKind.min, IntKind.max, IntKind.bits, IntKind.signed] using h2
    exact this.2
  refine ⟨6, ?_⟩
  unfold arrearslaw9_WaterfallPours.f
  dsimp only
  unfold arrearslaw9_payable.f
  by_cases c : a0 ≥ 0 ∧ a0 ≤ 5 ∧ F ≥ 0 ∧ I ≥ 0 ∧ P ≥ 0 ∧ a2 ≥ 1
  · obtain ⟨c0, c1, c2, c3, c4, c5⟩ := c
    have H : Ok F I P a0 a2 := ⟨c2, c3, c4, c0, by omega, by omega, hm⟩
    have ho : waterfall_Order.f a0 = some (waterfall_Order.kind a0 0, waterfall_Order.kind a0 1, waterfall_Order.kind a0 2, true) := by
      unfold waterfall_Order.f
      rw [if_neg (by omega), if_neg (by omega)]
    rw [if_pos c0, if_pos c1, if_pos c2, if_pos c3, if_pos c4, decide_eq_true c5, prog_parts H, ho]
    simp only [Option.bind_some, if_true]
    have main : ∀ k0 k1 k2 : Int, waterfall_Order.kind a0 0 = k0 → waterfall_Order.kind a0 1 = k1 → waterfall_Order.kind a0 2 = k2 → k0 + k1 + k2 = 6 → k0 * k1 * k2 = 6 → (parts a0 F I P a2).2.2.2.2.2 = 0 → (parts a0 F I P a2).2.2.2.2.1 = 0 →
        (parts a0 F I P a2).2.2.2.1 = a2 - g0 (want F I P k0) a2 - g1 (want F I P k0) (want F I P k1) a2 - g2 (want F I P k0) (want F I P k1) (want F I P k2) a2 →
        (∀ r0 r1 r2 r3 r4 : Int, r0 = (parts a0 F I P a2).1 → r1 = (parts a0 F I P a2).2.1 → r2 = (parts a0 F I P a2).2.2.1 →
          arrearslaw9_of.f k0 F I P r0 r1 r2 r3 r4 = some (want F I P k0, g0 (want F I P k0) a2) ∧ arrearslaw9_of.f k1 F I P r0 r1 r2 r3 r4 = some (want F I P k1, g1 (want F I P k0) (want F I P k1) a2) ∧ arrearslaw9_of.f k2 F I P r0 r1 r2 r3 r4 = some (want F I P k2, g2 (want F I P k0) (want F I P k1) (want F I P k2) a2)) →
        (if (parts a0 F I P a2).2.2.2.2.2 = 0 then if (parts a0 F I P a2).2.2.2.2.1 = 0 then arrearslaw9_WaterfallPours.j0 6 a2 (decide ((parts a0 F I P a2).2.2.2.1 < 0)) F I P (waterfall_Order.kind a0 0) (waterfall_Order.kind a0 1) (waterfall_Order.kind a0 2) (parts a0 F I P a2).1 (parts a0 F I P a2).2.1 (parts a0 F I P a2).2.2.1 (parts a0 F I P a2).2.2.2.1 (parts a0 F I P a2).2.2.2.2.1 else arrearslaw9_WaterfallPours.j0 6 a2 true F I P (waterfall_Order.kind a0 0) (waterfall_Order.kind a0 1) (waterfall_Order.kind a0 2) (parts a0 F I P a2).1 (parts a0 F I P a2).2.1 (parts a0 F I P a2).2.2.1 (parts a0 F I P a2).2.2.2.1 (parts a0 F I P a2).2.2.2.2.1 else arrearslaw9_WaterfallPours.j0 6 a2 true F I P (waterfall_Order.kind a0 0) (waterfall_Order.kind a0 1) (waterfall_Order.kind a0 2) (parts a0 F I P a2).1 (parts a0 F I P a2).2.1 (parts a0 F I P a2).2.2.1 (parts a0 F I P a2).2.2.2.1 (parts a0 F I P a2).2.2.2.2.1) = some true := by
      intro k0 k1 k2 e0 e1 e2 es ep z5 z4 q3 hof
      obtain ⟨o0, o1, o2⟩ := hof _ _ _ (parts a0 F I P a2).2.2.2.1 (parts a0 F I P a2).2.2.2.2.1 rfl rfl rfl
      have r := g_range (want F I P k0) (want F I P k1) (want F I P k2) a2 (want_nn H _) (want_nn H _) (want_nn H _) (by omega)
      have m0 := mn_full (want F I P k0) a2
      have m1 := mn_full (want F I P k1) (a2 - g0 (want F I P k0) a2)
      have m2 := mn_full (want F I P k2) (a2 - g0 (want F I P k0) a2 - g1 (want F I P k0) (want F I P k1) a2)
      have n0 : g0 (want F I P k0) a2 = mn (want F I P k0) a2 := rfl
      have n1 : g1 (want F I P k0) (want F I P k1) a2 = mn (want F I P k1) (a2 - g0 (want F I P k0) a2) := rfl
      have n2 : g2 (want F I P k0) (want F I P k1) (want F I P k2) a2 = mn (want F I P k2) (a2 - g0 (want F I P k0) a2 - g1 (want F I P k0) (want F I P k1) a2) := rfl
      have n3 : g3 (want F I P k0) (want F I P k1) (want F I P k2) a2 = a2 - g0 (want F I P k0) a2 - g1 (want F I P k0) (want F I P k1) a2 - g2 (want F I P k0) (want F I P k1) (want F I P k2) a2 := rfl
      rw [← n0] at m0
      rw [← n1] at m1
      rw [← n2] at m2
      rw [if_pos z5, if_pos z4, e0, e1, e2, z4]
      rw [z4] at o0 o1 o2
      rw [q3] at o0 o1 o2 ⊢
      clear z5 z4 q3 hof e0 e1 e2 n0 n1 n2
      generalize g0 (want F I P k0) a2 = G0 at *
      generalize g1 (want F I P k0) (want F I P k1) a2 = G1 at *
      generalize g2 (want F I P k0) (want F I P k1) (want F I P k2) a2 = G2 at *
      generalize g3 (want F I P k0) (want F I P k1) (want F I P k2) a2 = G3 at *
      generalize hu : want F I P k0 = u at *
      generalize hv : want F I P k1 = v at *
      generalize hx : want F I P k2 = x at *
      rw [decide_eq_false (by omega)]
      have b0 : wrap64 (wrap64 (k0 + k1) + k2) = 6 := by unfold wrap64; omega
      have b1 : wrap64 (wrap64 (k0 * k1) * k2) = 6 := by
        have hd : (wrap64 (k0 * k1) * k2 - k0 * k1 * k2) % 18446744073709551616 = 0 := by
          have : wrap64 (k0 * k1) = k0 * k1 - 18446744073709551616 * ((k0 * k1 + 9223372036854775808) / 18446744073709551616) := by unfold wrap64; omega
          rw [this, Int.sub_mul, Int.mul_assoc 18446744073709551616]
          generalize (k0 * k1 + 9223372036854775808) / 18446744073709551616 * k2 = z
          generalize k0 * k1 * k2 = y
          omega
        rw [ep] at hd
        generalize wrap64 (k0 * k1) * k2 = z at hd ⊢
        unfold wrap64; omega
      rw [show (6 : Nat) = 5 + 1 from rfl, arrearslaw9_WaterfallPours.j0, if_neg (by simp), b0, if_pos rfl, b1]
      rw [show (5 : Nat) = 4 + 1 from rfl, arrearslaw9_WaterfallPours.j1, if_neg (by simp)]
      exact pours_loop 0 a2 u v x G0 G1 G2 F I P k0 k1 k2 _ _ _ _ o0 o1 o2 (by omega) (by omega) (by omega) (by omega) (by omega) (by omega) (by omega) (by omega) (by omega) (by omega) (by omega) (by omega) hm
    rcases six c0 (by omega : a0 < 6) with rfl | rfl | rfl | rfl | rfl | rfl <;>
      refine main _ _ _ rfl rfl rfl (by decide) (by decide) rfl rfl rfl ?_ <;>
      (intro r0 r1 r2 r3 r4 h0 h1 h2; subst h0 h1 h2; exact ⟨rfl, rfl, rfl⟩)
  · have hn : ∀ X : Option Bool, ((if a0 ≥ 0 then if a0 ≤ 5 then if F ≥ 0 then if I ≥ 0 then if P ≥ 0 then some (decide (a2 ≥ 1)) else some false else some false else some false else some false else some false).bind fun t => if t = true then X else some true) = some true := by
      intro X
      by_cases d0 : a0 ≥ 0
      · rw [if_pos d0]
        by_cases d1 : a0 ≤ 5
        · rw [if_pos d1]
          by_cases d2 : F ≥ 0
          · rw [if_pos d2]
            by_cases d3 : I ≥ 0
            · rw [if_pos d3]
              by_cases d4 : P ≥ 0
              · rw [if_pos d4, decide_eq_false (fun d5 => c ⟨d0, d1, d2, d3, d4, d5⟩)]; simp
              · rw [if_neg d4]; simp
            · rw [if_neg d3]; simp
          · rw [if_neg d2]; simp
        · rw [if_neg d1]; simp
      · rw [if_neg d0]; simp
    exact hn _
end Go.Proofs.YtleeifpdgnjbdaaDoor.G
