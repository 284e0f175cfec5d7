/- Two postings that are taken one behind the other are as one posting of all their entries. No condition beyond the lists' bulk. -/
import Derived.Test.YtmppfpdaglkhkaaDoorJx3
import Derived.Test.YtmppfpdaglkhkaaDoorJLedB
import Derived.Test.YtmppfpdaglkhkaaDoorJOpen
namespace Go.Proofs.YtmppfpdaglkhkaaDoor.J
open Go.RowKit Go.Proofs.YtmppfpdaglkhkaaDoorW.PrintWords Go.Proofs.YtmppfpdaglkhkaaDoorW.PrintLast
set_option linter.unusedVariables false
set_option linter.unusedSimpArgs false

theorem joins_good {b : List Int} {l m : List S43} (h : good b l) (h2 : good (after b l) m) : good b (l ++ m) ∧ after b (l ++ m) = after (after b l) m := by
  refine ⟨⟨by rw [bad_append m h.1]; exact h2.1, fun i hi => by rw [tot_append b l m hi]; exact h2.2 i hi⟩, ?_⟩
  unfold after
  apply List.map_congr_left
  intro i hi
  exact tot_append b l m (List.mem_range.1 hi)
def LedgerJoins_Pure : Prop := ∀ (x0 : S24) (l1 : List (S43)) (l2 : List (S43)), (WF24 1048576 x0) → ((∀ x_ ∈ l1, WF43 1048576 x_) ∧ l1.length * 24 ≤ 140737488351232 ∧ l1.length ≤ 1048576) → ((∀ x_ ∈ l2, WF43 1048576 x_) ∧ l2.length * 24 ≤ 140737488351232 ∧ l2.length ≤ 1048576) → ∃ k, arrearslaw8_LedgerJoins.f k x0.f0.f0 x0.f0.f1 x0.f0.f2 x0.f0.f3 x0.f0.f4 x0.f0.f5 x0.f0.f6 x0.f0.f7 x0.f0.f8 x0.f0.f9 x0.f0.f10 x0.f0.f11 l1 l2 = some true
theorem LedgerJoins_pure : LedgerJoins_Pure := by
  intro x0 l1 l2 h0 h1 h2
  have hb := bk_of h0
  have e1 := es_of h1.1
  have e2 := es_of h2.1
  refine ⟨14, ?_⟩
  unfold arrearslaw8_LedgerJoins.f
  rw [post_f hb e1]
  simp only [Option.bind_some, tup]
  rcases spec_cases [x0.f0.f0, x0.f0.f1, x0.f0.f2, x0.f0.f3, x0.f0.f4, x0.f0.f5, x0.f0.f6, x0.f0.f7, x0.f0.f8, x0.f0.f9, x0.f0.f10, x0.f0.f11] l1 with ⟨hg, e⟩ | ⟨_, _, ne, _⟩
  · rw [e]
    dsimp only
    rw [if_pos rfl, post_l (after_bk hg) e2]
    simp only [Option.bind_some, tup]
    rcases spec_cases (after [x0.f0.f0, x0.f0.f1, x0.f0.f2, x0.f0.f3, x0.f0.f4, x0.f0.f5, x0.f0.f6, x0.f0.f7, x0.f0.f8, x0.f0.f9, x0.f0.f10, x0.f0.f11] l1) l2 with ⟨hg2, e'⟩ | ⟨_, _, ne, _⟩
    · obtain ⟨g3, a3⟩ := joins_good hg hg2
      rw [e']
      dsimp only
      rw [if_pos rfl, if_pos (by simp; omega)]
      dsimp only [List.nil_append]
      rw [if_pos (by omega), post_f hb (e1.append e2)]
      simp only [Option.bind_some, tup]
      rw [spec_good g3, a3]
      dsimp only
      rw [if_pos rfl, same_true 14 (by omega)]
      simp only [Option.bind_some, if_true]
      rw [posts_true]; rfl
    · rw [if_neg ne, posts_true]; rfl
  · rw [if_neg ne, posts_true]; rfl
end Go.Proofs.YtmppfpdaglkhkaaDoor.J
