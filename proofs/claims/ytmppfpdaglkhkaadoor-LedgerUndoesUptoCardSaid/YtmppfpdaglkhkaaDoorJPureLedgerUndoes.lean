/- What was posted to a book that may stand is taken back by posting its Reverse; and the Reverse of the Reverse is the list. No condition beyond the lists' bulk. -/
import Derived.Test.YtmppfpdaglkhkaaDoorJx8
import Derived.Test.YtmppfpdaglkhkaaDoorJLedC
import Derived.Test.YtmppfpdaglkhkaaDoorJOpen
namespace Go.Proofs.YtmppfpdaglkhkaaDoor.J
open Go.RowKit Go.Proofs.YtmppfpdaglkhkaaDoorW.PrintWords Go.Proofs.YtmppfpdaglkhkaaDoorW.PrintLast
set_option linter.unusedVariables false
set_option linter.unusedSimpArgs false

def LedgerUndoes_Pure : Prop := ∀ (x0 : S24) (l1 : List (S43)), (WF24 1048576 x0) → (((∀ x_ ∈ l1, WF43 1048576 x_) ∧ l1.length * 24 ≤ 140737488351232 ∧ l1.length ≤ 1048576)) → ∃ k, arrearslaw8_LedgerUndoes.f k x0.f0.f0 x0.f0.f1 x0.f0.f2 x0.f0.f3 x0.f0.f4 x0.f0.f5 x0.f0.f6 x0.f0.f7 x0.f0.f8 x0.f0.f9 x0.f0.f10 x0.f0.f11 l1 = some true
theorem undone {b : List Int} {l : List S43} (hb : b.length = 12) (h0 : good b []) (h : good b l) : good (after b l) (rev l) ∧ after (after b l) (rev l) = b := by
  have e : ∀ i, i < 12 → ledger_Post.tot (after b l) (rev l) i = b.getD i 0 := fun i hi => by
    unfold ledger_Post.tot
    rw [show (after b l).getD i 0 = b.getD i 0 + (l.map (ledger_Post.amt i)).sum from after_get b l hi, sum_rev_sw]
    omega
  have e0 : ∀ i, ledger_Post.tot b [] i = b.getD i 0 := fun i => by unfold ledger_Post.tot; simp
  refine ⟨⟨bad_rev h.1, fun i hi => by rw [e i hi, ← e0 i]; exact h0.2 i hi⟩, ?_⟩
  apply List.ext_getElem
  · rw [after_len, hb]
  · intro i h1 h2
    have hi : i < 12 := by rw [after_len] at h1; exact h1
    have h3 := after_get (after b l) (rev l) hi
    rw [e i hi, List.getD_eq_getElem?_getD, List.getElem?_eq_getElem h1, List.getD_eq_getElem?_getD, List.getElem?_eq_getElem h2] at h3
    exact h3
theorem LedgerUndoes_pure : LedgerUndoes_Pure := by
  intro x0 l1 h0 h1
  have hb := bk_of h0
  have e1 := es_of h1.1
  have hl := h1.2.2
  refine ⟨(l1.length + 20) + 1 + 1, ?_⟩
  unfold arrearslaw8_LedgerUndoes.f
  rw [reverse_true l1 hl _ (by omega)]
  simp only [Option.bind_some]
  rw [reverse_true (rev l1) (by rw [rev_len]; exact hl) _ (by rw [rev_len]; omega)]
  simp only [Option.bind_some]
  rw [rev_rev, alike_true l1 hl _ (by omega)]
  simp only [Option.bind_some, if_true]
  rw [posts_true]
  simp only [Option.bind_some, Bool.not_true]
  rw [arrearslaw8_LedgerUndoes.j0, if_neg (by simp), post_f hb (fun e he => absurd he (List.not_mem_nil)), post_f hb e1]
  simp only [Option.bind_some, tup]
  have one : ∀ c0 c1 c2 c3 c4 c5 c6 c7 c8 c9 c10 c11, arrearslaw8_LedgerUndoes.j1 (l1.length + 20 + 1) l1 true x0.f0.f0 x0.f0.f1 x0.f0.f2 x0.f0.f3 x0.f0.f4 x0.f0.f5 x0.f0.f6 x0.f0.f7 x0.f0.f8 x0.f0.f9 x0.f0.f10 x0.f0.f11 c0 c1 c2 c3 c4 c5 c6 c7 c8 c9 c10 c11 = some true := fun _ _ _ _ _ _ _ _ _ _ _ _ => by rw [arrearslaw8_LedgerUndoes.j1, if_pos rfl]
  rcases spec_cases [x0.f0.f0, x0.f0.f1, x0.f0.f2, x0.f0.f3, x0.f0.f4, x0.f0.f5, x0.f0.f6, x0.f0.f7, x0.f0.f8, x0.f0.f9, x0.f0.f10, x0.f0.f11] [] with ⟨g0, e⟩ | ⟨_, _, ne, _⟩
  · rw [e]
    dsimp only
    rw [if_pos rfl]
    rcases spec_cases [x0.f0.f0, x0.f0.f1, x0.f0.f2, x0.f0.f3, x0.f0.f4, x0.f0.f5, x0.f0.f6, x0.f0.f7, x0.f0.f8, x0.f0.f9, x0.f0.f10, x0.f0.f11] l1 with ⟨hg, e'⟩ | ⟨_, _, ne, _⟩
    · obtain ⟨g3, a3⟩ := undone hb.1 g0 hg
      rw [e']
      dsimp only
      rw [show ((0 : Int) != 0) = false from rfl, arrearslaw8_LedgerUndoes.j1, if_neg (by simp), reverse_true l1 hl _ (by omega)]
      simp only [Option.bind_some]
      rw [post_l (after_bk hg) (es_rev e1)]
      simp only [Option.bind_some, tup]
      rw [spec_good g3, a3]
      dsimp only
      rw [if_pos rfl]
      have := same_true (l1.length + 20) (by omega) x0.f0.f0 x0.f0.f1 x0.f0.f2 x0.f0.f3 x0.f0.f4 x0.f0.f5 x0.f0.f6 x0.f0.f7 x0.f0.f8 x0.f0.f9 x0.f0.f10 x0.f0.f11
      simp only [List.getD_cons_zero, List.getD_cons_succ]
      rw [this]; rfl
    · rw [bne_iff_ne.2 ne]; exact one _ _ _ _ _ _ _ _ _ _ _ _
  · rw [if_neg ne]; exact one _ _ _ _ _ _ _ _ _ _ _ _
end Go.Proofs.YtmppfpdaglkhkaaDoor.J
