/- FrameCutAgain: a file that begins with a frame, cut at the end that Scan told, scans to the same payloads and a clean end. No condition but the bytes' range. -/
import Derived.Test.YtgfjmpnlkjocaaaDoorCFrameF
import Derived.Test.YtgfjmpnlkjocaaaDoorCFrameR
import Derived.Test.YtgfjmpnlkjocaaaDoorCx3
import Derived.Test.YtgfjmpnlkjocaaaDoorCx4
namespace Go.Proofs.YtgfjmpnlkjocaaaDoor.C
open Go.RowKit Go.Proofs.YtgfjmpnlkjocaaaDoorW.PrintWords Go.Proofs.YtgfjmpnlkjocaaaDoorW.PrintLast Go.Proofs.YtgfjmpnlkjocaaaDoorW.PrintMore
set_option linter.unusedVariables false
set_option linter.unusedSimpArgs false

theorem plus_loop (b x : List Int) (hl : b.length ≤ 10000000) (hx : x.length ≤ 100000000) (d : Nat) : ∀ (k i : Nat), i + d = b.length → d < k → arrearslaw6_plus.l0 k b (x ++ b.take i) (i : Int) = some (x ++ b) := by
  induction d with
  | zero =>
    intro k i hi hk
    obtain ⟨k, rfl⟩ : ∃ m, k = m + 1 := ⟨k - 1, by omega⟩
    simp only [arrearslaw6_plus.l0]
    rw [if_neg (by omega), List.take_of_length_le (by omega)]
  | succ d ih =>
    intro k i hi hk
    obtain ⟨k, rfl⟩ : ∃ m, k = m + 1 := ⟨k - 1, by omega⟩
    simp only [arrearslaw6_plus.l0]
    have e : b.take (i + 1) = b.take i ++ [rd b (i : Int)] := by rw [List.take_succ_eq_append_getElem (by omega), rd_at b i (by omega)]
    rw [if_pos (by omega), if_pos (by omega), if_pos (by rw [List.length_append, List.length_take]; omega), List.append_assoc, ← e, show wrap64 ((i : Int) + 1) = ((i + 1 : Nat) : Int) from by rw [pl_w64 (by omega) (by omega)]; omega]
    exact ih k (i + 1) (by omega) (by omega)
theorem plus_is (a b : List Int) (ha : a.length ≤ 10000000) (hb : b.length ≤ 10000000) (k : Nat) (hk : a.length + b.length < k) : arrearslaw6_plus.f k a b = some (a ++ b) := by
  unfold arrearslaw6_plus.f
  rw [copied_is a ha k (by omega), Option.bind_some]
  have := plus_loop b a hb (by omega) b.length k 0 (by omega) (by omega)
  simpa using this
def FrameCutAgain_Pure : Prop := ∀ (B0 B1 : Nat) (l0 : List Int) (l1 : List Int), ((∀ x_ ∈ l0, (Lit.int .u8 x_).wf = true) ∧ l0.length * 1 ≤ 140737488351232 ∧ l0.length ≤ B0) → ((∀ x_ ∈ l1, (Lit.int .u8 x_).wf = true) ∧ l1.length * 1 ≤ 140737488351232 ∧ l1.length ≤ B1) → ∃ k, arrearslaw6_FrameCutAgain.f k l0 l1 = some true
theorem FrameCutAgain_pure : FrameCutAgain_Pure := by
  intro B0 B1 p y h0 h1
  have hbp : Bytes p := fun x hx => by simpa [Lit.wf, IntKind.min, IntKind.max, IntKind.bits, IntKind.signed] using h0.1 x hx
  have hby : Bytes y := fun x hx => by simpa [Lit.wf, IntKind.min, IntKind.max, IntKind.bits, IntKind.signed] using h1.1 x hx
  refine ⟨50000000 + 1 + 1 + 1, ?_⟩
  generalize hk : 50000000 = k
  unfold arrearslaw6_FrameCutAgain.f
  by_cases c0 : (p.length : Int) > 4194304
  · rw [if_pos c0, arrearslaw6_FrameCutAgain.j0, if_pos rfl]
  rw [if_neg c0]
  by_cases c1 : (y.length : Int) > 6000000
  · rw [show decide ((y.length : Int) > 6000000) = true from decide_eq_true c1, arrearslaw6_FrameCutAgain.j0, if_pos rfl]
  have hg : Good p := ⟨hbp, by omega⟩
  have hl := fr_len p
  rw [show decide ((y.length : Int) > 6000000) = false from decide_eq_false c1, arrearslaw6_FrameCutAgain.j0, if_neg (by simp), copied_is p (by omega) _ (by omega), Option.bind_some, encode_is p hg, Option.bind_some, if_pos rfl,
    show ((((fr p, true) : List Int × Bool).1.length : Int) != wrap64 ((p.length : Int) + 8)) = false from by rw [pl_w64 (by omega) (by omega), bne_eq_false_iff_eq]; show ((fr p).length : Int) = _; omega]
  show arrearslaw6_FrameCutAgain.j1 (k + 1 + 1) p y (fr p) false = some true
  rw [arrearslaw6_FrameCutAgain.j1, if_neg (by simp), plus_is (fr p) y (by omega) (by omega) _ (by omega), Option.bind_some]
  have hbf : Bytes (fr p ++ y) := (fr_bytes hbp).append hby
  have hlf : (fr p ++ y).length = p.length + 8 + y.length := by rw [List.length_append, hl]
  obtain ⟨q1, q2, q3, e1, e2, e3, ⟨z, e4⟩, e5, e6⟩ := scan_some y hby (by omega) (k + 1) (by omega)
  have hs : frame_Scan.f (k + 1) (fr p ++ y) = some (p :: q1, ((fr p).length : Int) + q2, q3) := by
    have h2 := g_fr p y hg hby (y.length + 1)
    obtain ⟨r, hr⟩ := g_some y hby (y.length + 1) 0 (by omega) (by omega)
    have h3 := g_le y 0 r (k + 1 - (y.length + 1)) _ hr
    rw [show y.length + 1 + (k + 1 - (y.length + 1)) = k + 1 from by omega, e2] at h3
    rw [hr, ← h3, Option.map_some] at h2
    exact scan_of_g (by omega) h2 (by omega)
  rw [hs, Option.bind_some]
  have hlen : ((p :: q1).length : Int) = (q1.length : Int) + 1 := by rw [List.length_cons]; omega
  rw [if_neg (by show ¬ ((p :: q1).length : Int) = 0; omega), if_pos (by show 0 < ((p :: q1).length : Int); omega), show rd_L1 (p :: q1) 0 = p from rfl, same_self p (by omega) _ (by omega), Option.bind_some, if_pos rfl]
  show (if ((fr p).length : Int) + q2 < ((fr p).length : Int) then _ else _) = _
  rw [if_neg (by omega), show decide (((fr p).length : Int) + q2 > ((fr p ++ y).length : Int)) = false from decide_eq_false (by rw [List.length_append]; omega)]
  show arrearslaw6_FrameCutAgain.j2 (k + 1) (fr p ++ y) (p :: q1) (((fr p).length : Int) + q2) false = some true
  rw [arrearslaw6_FrameCutAgain.j2, if_neg (by simp), if_pos (by omega), if_pos (by rw [List.length_append]; omega)]
  have hcut : (fr p ++ y).take (((fr p).length : Int) + q2).toNat = jn (p :: q1) := by
    rw [jn_cons, e4, ← List.append_assoc, show (((fr p).length : Int) + q2).toNat = (fr p ++ jn q1).length from by rw [List.length_append]; omega, List.take_left]
  have hgood : ∀ x ∈ p :: q1, Good x := fun x hx => by
    rcases List.mem_cons.1 hx with rfl | hx
    · exact hg
    · exact e3 x hx
  have hjl : (jn (p :: q1)).length = (fr p).length + (jn q1).length := by rw [jn_cons, List.length_append]
  have hql := jn_len_le q1
  rw [hcut, scan_jn (p :: q1) hgood (by omega) k (by rw [List.length_cons]; omega), Option.bind_some, if_pos (by show ((jn (p :: q1)).length : Int) = _; omega), if_pos rfl, alike_self _ (fun x hx => (hgood x hx).2) (by rw [List.length_cons]; omega) k (by rw [List.length_cons]; omega), Option.bind_some]
end Go.Proofs.YtgfjmpnlkjocaaaDoor.C
