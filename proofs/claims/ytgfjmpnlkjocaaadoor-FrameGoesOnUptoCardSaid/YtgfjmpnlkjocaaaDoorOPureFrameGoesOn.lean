/- FrameGoesOn: what stands behind frames is told as it would be told alone. No condition but the bytes' range and lengths up to a bound. -/
import Derived.Test.YtgfjmpnlkjocaaaDoorOFrameG
import Derived.Test.YtgfjmpnlkjocaaaDoorOFrameS
import Derived.Test.YtgfjmpnlkjocaaaDoorOx5
namespace Go.Proofs.YtgfjmpnlkjocaaaDoor.O
open Go.RowKit Go.Proofs.YtgfjmpnlkjocaaaDoorW.PrintWords Go.Proofs.YtgfjmpnlkjocaaaDoorW.PrintLast Go.Proofs.YtgfjmpnlkjocaaaDoorW.PrintMore
set_option linter.unusedVariables false
set_option linter.unusedSimpArgs false

def FrameGoesOn_Pure : Prop := ∀ (l0 : List (List Int)) (l1 : List Int), ((∀ x_ ∈ l0, (∀ x__ ∈ x_, (Lit.int .u8 x__).wf = true) ∧ x_.length * 1 ≤ 140737488351232 ∧ x_.length ≤ 1048576) ∧ l0.length * 24 ≤ 140737488351232 ∧ l0.length ≤ 1048576) → ((∀ x_ ∈ l1, (Lit.int .u8 x_).wf = true) ∧ l1.length * 1 ≤ 140737488351232 ∧ l1.length ≤ 1048576) → ∃ k, arrearslaw6_FrameGoesOn.f k l0 l1 = some true
theorem FrameGoesOn_pure : FrameGoesOn_Pure := by
  intro ps y h0 h1
  have hby : Bytes y := fun x hx => by simpa [Lit.wf, IntKind.min, IntKind.max, IntKind.bits, IntKind.signed] using h1.1 x hx
  have hbp : ∀ p ∈ ps, Bytes p := fun p hp x hx => by simpa [Lit.wf, IntKind.min, IntKind.max, IntKind.bits, IntKind.signed] using (h0.1 p hp).1 x hx
  have hyl : y.length ≤ 1048576 := h1.2.2
  have hpl : ps.length ≤ 1048576 := h0.2.2
  refine ⟨50000000 + 1 + 1 + 1, ?_⟩
  generalize hk : 50000000 = k
  unfold arrearslaw6_FrameGoesOn.f
  rcases fits_is ps hpl (fun p hp => (h0.1 p hp).2.2) (k + 1 + 1 + 1) (by omega) with hf | ⟨hf, hsm, hj⟩
  · rw [hf, Option.bind_some, if_neg (by simp), arrearslaw6_FrameGoesOn.j0, if_pos rfl]
  have hg : ∀ p ∈ ps, Good p := fun p hp => ⟨hbp p hp, hsm p hp⟩
  have hj8 := jn_len ps
  rw [hf, Option.bind_some, if_pos rfl, show decide ((y.length : Int) > 6000000) = false from decide_eq_false (by omega), arrearslaw6_FrameGoesOn.j0, if_neg (by simp), twin_is ps (by omega) hsm _ (by omega), Option.bind_some, join_is ps (by omega) hg (by omega) _ (by omega), Option.bind_some, if_pos rfl,
    size_is ps (by omega) (by omega) _ (by omega), Option.bind_some, show ((((jn ps, true) : List Int × Bool).1.length : Int) != ((jn ps).length : Int)) = false from bne_eq_false_iff_eq.2 rfl]
  show arrearslaw6_FrameGoesOn.j1 (k + 1 + 1) ps y (jn ps) false = some true
  have hbj := jn_bytes ps hg
  obtain ⟨q1, q2, q3, e1, e2, e3, ⟨z, e4⟩, e5, e6⟩ := scan_some y hby (by omega) (k + 1) (by omega)
  have hs : frame_Scan.f (k + 1) (jn ps ++ y) = some (ps ++ q1, ((jn ps).length : Int) + q2, q3) := by
    have h2 := g_jn y hby (y.length + 1) ps hg
    obtain ⟨r, hr⟩ := g_some y hby (y.length + 1) 0 (by omega) (by omega)
    have h3 := g_le y 0 r (k + 1 - (y.length + 1)) _ hr
    rw [show y.length + 1 + (k + 1 - (y.length + 1)) = k + 1 from by omega, e2] at h3
    rw [hr, ← h3, Option.map_some] at h2
    exact scan_of_g (by rw [List.length_append]; omega) h2 (by omega)
  have hq1 := jn_len q1
  rw [arrearslaw6_FrameGoesOn.j1, if_neg (by simp), plus_is (jn ps) y (by omega) (by omega) _ (by omega), Option.bind_some, hs, Option.bind_some, copied_is y (by omega) _ (by omega), Option.bind_some, e1, Option.bind_some]
  rw [if_pos (by show (((ps ++ q1).length : Nat) : Int) = wrap64 ((ps.length : Int) + (q1.length : Int)); rw [List.length_append, pl_w64 (by omega) (by omega)]; omega), if_pos (by show ((jn ps).length : Int) + q2 = wrap64 (((jn ps).length : Int) + q2); rw [pl_w64 (by omega) (by omega)]),
    show ((((ps ++ q1, ((jn ps).length : Int) + q2, q3) : List (List Int) × Int × Int).2.2) != (((q1, q2, q3) : List (List Int) × Int × Int).2.2)) = false from bne_eq_false_iff_eq.2 rfl]
  show arrearslaw6_FrameGoesOn.j2 (k + 1) ps (ps ++ q1) q1 false = some true
  rw [arrearslaw6_FrameGoesOn.j2, if_neg (by simp), if_pos (by omega), if_pos (by rw [List.length_append]; omega), show ((ps.length : Int)).toNat = ps.length from by omega, List.take_left, List.drop_left, alike_self ps hsm (by omega) _ (by omega), Option.bind_some, if_pos rfl, alike_self q1 (fun x hx => (e3 x hx).2) (by omega) _ (by omega), Option.bind_some]
end Go.Proofs.YtgfjmpnlkjocaaaDoor.O
