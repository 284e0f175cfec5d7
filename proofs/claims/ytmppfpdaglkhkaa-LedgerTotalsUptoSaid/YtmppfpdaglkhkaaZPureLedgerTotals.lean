/- Total of any books is the document's, the books are as they were, and so once more of the same list written over. No condition beyond the list's bulk. -/
import Derived.Test.YtmppfpdaglkhkaaZx3a
import Derived.Test.YtmppfpdaglkhkaaZLedV
import Derived.Test.YtmppfpdaglkhkaaZOpen
namespace Go.Proofs.Ytmppfpdaglkhkaa.Z
open Go.RowKit Go.Proofs.YtmppfpdaglkhkaaW.PrintWords Go.Proofs.YtmppfpdaglkhkaaW.PrintLast
set_option linter.unusedVariables false
set_option linter.unusedSimpArgs false
set_option maxRecDepth 100000
theorem same_true (k : Nat) (hk : 14 ≤ k) (a0 a1 a2 a3 a4 a5 a6 a7 a8 a9 a10 a11 : Int) : arrearslaw8_same.f k a0 a1 a2 a3 a4 a5 a6 a7 a8 a9 a10 a11 a0 a1 a2 a3 a4 a5 a6 a7 a8 a9 a10 a11 = some true := by
  obtain ⟨m, rfl⟩ : ∃ m, k = m + 14 := ⟨k - 14, by omega⟩
  simp [arrearslaw8_same.f, arrearslaw8_same.l0, wrap64]
def half (b : S32) (q : Int) : S32 := ⟨⟨putI q 0 (wrap64 (Int.tdiv (selI (nets b) q) 2)) b.f0.f0, putI q 1 (wrap64 (Int.tdiv (selI (nets b) q) 2)) b.f0.f1, putI q 2 (wrap64 (Int.tdiv (selI (nets b) q) 2)) b.f0.f2, putI q 3 (wrap64 (Int.tdiv (selI (nets b) q) 2)) b.f0.f3, putI q 4 (wrap64 (Int.tdiv (selI (nets b) q) 2)) b.f0.f4, putI q 5 (wrap64 (Int.tdiv (selI (nets b) q) 2)) b.f0.f5, putI q 6 (wrap64 (Int.tdiv (selI (nets b) q) 2)) b.f0.f6, putI q 7 (wrap64 (Int.tdiv (selI (nets b) q) 2)) b.f0.f7, putI q 8 (wrap64 (Int.tdiv (selI (nets b) q) 2)) b.f0.f8, putI q 9 (wrap64 (Int.tdiv (selI (nets b) q) 2)) b.f0.f9, putI q 10 (wrap64 (Int.tdiv (selI (nets b) q) 2)) b.f0.f10, putI q 11 (wrap64 (Int.tdiv (selI (nets b) q) 2)) b.f0.f11⟩⟩
theorem half_in {b : S32} (h : ∀ x ∈ nets b, Wd.in64 x) (q : Int) : ∀ x ∈ nets (half b q), Wd.in64 x := by
  have hw : ∀ y : Int, Wd.in64 (wrap64 y) := fun y => by unfold Wd.in64 wrap64; omega
  have hp : ∀ (i : Nat) (v o : Int), Wd.in64 o → Wd.in64 v → Wd.in64 (putI q i v o) := fun i v o ho hv => by unfold putI; split <;> assumption
  intro x hx
  have hn : ∀ i : Nat, Wd.in64 ((nets b).getD i 0) := nets_in h
  unfold half nets at hx
  simp only [List.mem_cons, List.not_mem_nil, or_false] at hx
  rcases hx with rfl | rfl | rfl | rfl | rfl | rfl | rfl | rfl | rfl | rfl | rfl | rfl
  · exact hp _ _ _ (hn 0) (hw _)
  · exact hp _ _ _ (hn 1) (hw _)
  · exact hp _ _ _ (hn 2) (hw _)
  · exact hp _ _ _ (hn 3) (hw _)
  · exact hp _ _ _ (hn 4) (hw _)
  · exact hp _ _ _ (hn 5) (hw _)
  · exact hp _ _ _ (hn 6) (hw _)
  · exact hp _ _ _ (hn 7) (hw _)
  · exact hp _ _ _ (hn 8) (hw _)
  · exact hp _ _ _ (hn 9) (hw _)
  · exact hp _ _ _ (hn 10) (hw _)
  · exact hp _ _ _ (hn 11) (hw _)
theorem lt_l1 (l : List S32) (hn : l.length ≤ 1048576) (K : Nat) (hK : 13 * (l.length + 2) + 20 ≤ K) : ∀ (d i : Nat) (y : List S32), i + d = l.length → y.length = l.length → Bs y →
    arrearslaw8_LedgerTotals.l1 (d + 1 + K) l y (y.take i) (i : Int) = some true := by
  intro d
  induction d with
  | zero =>
    intro i y h hy hb
    obtain rfl : i = l.length := by omega
    rw [show 0 + 1 + K = K + 1 by omega, arrearslaw8_LedgerTotals.l1, if_neg (by omega), List.take_of_length_le (by omega), total_true y hb (by omega) K (by omega), rtotal_true y hb (by omega) K (by omega)]
    simp only [Option.bind_some, totalOf, tup13]
    rw [same_true K (by omega)]
    simp only [Option.bind_some, if_true, beq_self_eq_true]
  | succ d ih =>
    intro i y h hy hb
    have hi : i < y.length := by omega
    have ei : wrap64 ((i : Int) + 1) = ((i + 1 : Nat) : Int) := by rw [w64 (by omega) (by omega)]; omega
    have hq := Int.tmod_eq_emod_of_nonneg (a := (i : Int)) (b := 12) (by omega)
    have ht : (y.take i).length = i := by rw [List.length_take]; omega
    rw [show d + 1 + 1 + K = (d + 1 + K) + 1 by omega, arrearslaw8_LedgerTotals.l1, if_pos (by omega), if_pos (by omega), if_pos (by omega), if_pos (by omega), if_pos (by omega), if_pos (by omega), ei, rd_at y i hi, Int.toNat_natCast]
    have e : (y.set i (half y[i] (Int.tmod (i : Int) 12))).take (i + 1) = y.take i ++ [half y[i] (Int.tmod (i : Int) 12)] := by
      rw [List.take_succ_eq_append_getElem (by rw [List.length_set]; exact hi), List.getElem_set_self, List.take_set_of_le (Nat.le_refl _)]
    have hs := ih (i + 1) (y.set i (half y[i] (Int.tmod (i : Int) 12))) (by omega) (by rw [List.length_set]; exact hy) (fun b hm => by
      rcases List.mem_or_eq_of_mem_set hm with hm | rfl
      · exact hb b hm
      · exact half_in (hb _ (List.getElem_mem hi)) _)
    rw [e] at hs
    exact hs
theorem lt_j1 (l : List S32) (hl : Bs l) (hn : l.length ≤ 1048576) (z : S32) (K : Nat) (hK : 13 * (l.length + 2) + 20 ≤ K) : arrearslaw8_LedgerTotals.j1 (l.length + 1 + K + 1) l (l ++ [z]) l false = some true := by
  have hz : (l ++ [z]).length = l.length + 1 := by simp
  rw [arrearslaw8_LedgerTotals.j1, if_neg (by simp), if_pos (by omega), Int.toNat_natCast, List.take_left' rfl]
  exact lt_l1 l hn K hK l.length 0 l (by omega) rfl hl
theorem lt_l0 (l : List S32) (hl : Bs l) (hn : l.length ≤ 1048576) (t : Bool) (a0 a1 a2 a3 a4 a5 a6 a7 a8 a9 a10 a11 : Int) (K : Nat) (hK : 13 * (l.length + 2) + 20 ≤ K) : ∀ (d i : Nat), i + d = l.length →
    arrearslaw8_LedgerTotals.l0 (d + 1 + (l.length + 1 + K + 1)) l (l ++ [(⟨(⟨0, 0, 0, 0, 0, (-77), 0, 0, 0, 0, 0, 0⟩ : S30)⟩ : S32)]) l t t (i : Int) 0 0 0 0 0 (-77) 0 0 0 0 0 0 a0 a1 a2 a3 a4 a5 a6 a7 a8 a9 a10 a11 a0 a1 a2 a3 a4 a5 a6 a7 a8 a9 a10 a11 = some true := by
  intro d
  induction d with
  | zero =>
    intro i h
    obtain rfl : i = l.length := by omega
    have hz : (l ++ [(⟨(⟨0, 0, 0, 0, 0, (-77), 0, 0, 0, 0, 0, 0⟩ : S30)⟩ : S32)]).length = l.length + 1 := by simp
    rw [show 0 + 1 + (l.length + 1 + K + 1) = (l.length + 1 + K + 1) + 1 by omega, arrearslaw8_LedgerTotals.l0, if_neg (by omega), same_true _ (by omega)]
    simp only [Option.bind_some, if_true]
    rw [if_neg (by simp), if_pos (by omega), if_pos (by omega), rd_at (l ++ [(⟨(⟨0, 0, 0, 0, 0, (-77), 0, 0, 0, 0, 0, 0⟩ : S30)⟩ : S32)]) l.length (by omega), List.getElem_concat_length rfl, same_true _ (by omega)]
    simp only [Option.bind_some, Bool.not_true]
    exact lt_j1 l hl hn _ K hK
  | succ d ih =>
    intro i h
    have hi : i < l.length := by omega
    have ei : wrap64 ((i : Int) + 1) = ((i + 1 : Nat) : Int) := by rw [w64 (by omega) (by omega)]; omega
    rw [show d + 1 + 1 + (l.length + 1 + K + 1) = (d + 1 + (l.length + 1 + K + 1)) + 1 by omega, arrearslaw8_LedgerTotals.l0, if_pos (by omega), if_pos (by omega), if_pos (by omega), same_true _ (by omega), ei]
    simp only [Option.bind_some, if_true]
    exact ih (i + 1) (by omega)
def LedgerTotals_Pure : Prop := ∀ (l0 : List (S32)), ((∀ x_ ∈ l0, WF32 1048576 x_) ∧ l0.length * 96 ≤ 140737488351232 ∧ l0.length ≤ 1048576) → ∃ k, arrearslaw8_LedgerTotals.f k l0 = some true
theorem LedgerTotals_pure : LedgerTotals_Pure := by
  intro l h
  have hl : Bs l := by
    intro b hb x hx
    have h2 := h.1 b hb
    unfold WF32 WF30 at h2
    obtain ⟨h0, h1, h2, h3, h4, h5, h6, h7, h8, h9, h10, h11⟩ := h2
    have wf : ∀ {x : Int}, (Lit.int .i64 x).wf = true → Wd.in64 x := fun {x} h => by
      simp [Lit.wf, IntKind.min, IntKind.max, IntKind.bits, IntKind.signed] at h
      exact ⟨by omega, by omega⟩
    unfold nets at hx
    simp only [List.mem_cons, List.not_mem_nil, or_false] at hx
    rcases hx with rfl | rfl | rfl | rfl | rfl | rfl | rfl | rfl | rfl | rfl | rfl | rfl <;> (apply wf; assumption)
  have hn := h.2.2
  refine ⟨l.length + 1 + (l.length + 1 + (13 * (l.length + 2) + 20) + 1), ?_⟩
  obtain ⟨K, hK⟩ : ∃ K, K = 13 * (l.length + 2) + 20 := ⟨_, rfl⟩
  rw [← hK]
  have hz : (l ++ [(⟨(⟨0, 0, 0, 0, 0, (-77), 0, 0, 0, 0, 0, 0⟩ : S30)⟩ : S32)]).length = l.length + 1 := by simp
  unfold arrearslaw8_LedgerTotals.f
  simp only [List.nil_append, List.length_nil, Option.bind_some]
  rw [if_pos (by omega), if_pos (by omega), if_pos (by omega), if_pos (by omega), Int.toNat_natCast, List.take_left' rfl, total_true l hl hn _ (by omega), rtotal_true l hl hn _ (by omega)]
  simp only [Option.bind_some, totalOf, tup13]
  exact lt_l0 l hl hn _ _ _ _ _ _ _ _ _ _ _ _ _ K (by omega) l.length 0 (by omega)
end Go.Proofs.Ytmppfpdaglkhkaa.Z
