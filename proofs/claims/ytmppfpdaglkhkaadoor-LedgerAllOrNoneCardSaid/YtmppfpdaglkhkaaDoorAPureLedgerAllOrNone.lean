/- One entry moves its amount and nothing else, or nothing. No condition beyond the lists' bulk. -/
import Derived.Test.YtmppfpdaglkhkaaDoorAx4
import Derived.Test.YtmppfpdaglkhkaaDoorALedD
import Derived.Test.YtmppfpdaglkhkaaDoorALedB
import Derived.Test.YtmppfpdaglkhkaaDoorALedK
import Derived.Test.YtmppfpdaglkhkaaDoorAOpen
namespace Go.Proofs.YtmppfpdaglkhkaaDoor.A
open Go.RowKit Go.Proofs.YtmppfpdaglkhkaaDoorW.PrintWords Go.Proofs.YtmppfpdaglkhkaaDoorW.PrintLast
set_option linter.unusedVariables false
set_option linter.unusedSimpArgs false

def LedgerAllOrNone_Pure : Prop := ∀ (B0 : Nat) (x0 : S24) (a1 : Int) (a2 : Int) (a3 : Int), (WF24 B0 x0) → ((Lit.int .i64 a1).wf = true) → ((Lit.int .i64 a2).wf = true) → ((Lit.int .i64 a3).wf = true) → ∃ k, arrearslaw8_LedgerAllOrNone.f k x0.f0.f0 x0.f0.f1 x0.f0.f2 x0.f0.f3 x0.f0.f4 x0.f0.f5 x0.f0.f6 x0.f0.f7 x0.f0.f8 x0.f0.f9 x0.f0.f10 x0.f0.f11 a1 a2 a3 = some true
def want (x1 x2 x3 : Int) (b : List Int) (i : Nat) : Int := if (i : Int) = x2 then wrap64 ((if (i : Int) = x1 then wrap64 (b.getD i 0 + x3) else b.getD i 0) - x3) else (if (i : Int) = x1 then wrap64 (b.getD i 0 + x3) else b.getD i 0)
theorem aon_step (x1 x2 x3 : Int) (a0 a1 a2 a3 a4 a5 a6 a7 a8 a9 a10 a11 c0 c1 c2 c3 c4 c5 c6 c7 c8 c9 c10 c11 : Int) (k i : Nat) (hi : i < 12) (h : [c0, c1, c2, c3, c4, c5, c6, c7, c8, c9, c10, c11].getD i 0 = want x1 x2 x3 [a0, a1, a2, a3, a4, a5, a6, a7, a8, a9, a10, a11] i) : arrearslaw8_LedgerAllOrNone.l0 (k + 2) x1 x2 x3 (i : Int) a0 a1 a2 a3 a4 a5 a6 a7 a8 a9 a10 a11 c0 c1 c2 c3 c4 c5 c6 c7 c8 c9 c10 c11 = arrearslaw8_LedgerAllOrNone.l0 k x1 x2 x3 ((i + 1 : Nat) : Int) a0 a1 a2 a3 a4 a5 a6 a7 a8 a9 a10 a11 c0 c1 c2 c3 c4 c5 c6 c7 c8 c9 c10 c11 := by
  unfold want at h
  have e : wrap64 ((i : Int) + 1) = ((i + 1 : Nat) : Int) := by rw [w64 (by omega) (by omega)]; omega
  rw [arrearslaw8_LedgerAllOrNone.l0, if_pos (by omega), if_pos (by omega)]
  by_cases h1 : (i : Int) = x1
  · rw [if_pos h1, arrearslaw8_LedgerAllOrNone.j3, selI_nat, selI_nat]
    rw [if_pos h1] at h
    by_cases h2 : (i : Int) = x2
    · rw [if_pos h2] at h
      rw [if_pos h2, if_pos (by omega), if_pos (by omega), if_pos h, e]
    · rw [if_neg h2] at h
      rw [if_neg h2, if_pos (by omega), if_pos (by omega), if_pos h, e]
  · rw [if_neg h1, arrearslaw8_LedgerAllOrNone.j3, selI_nat, selI_nat]
    rw [if_neg h1] at h
    by_cases h2 : (i : Int) = x2
    · rw [if_pos h2] at h
      rw [if_pos h2, if_pos (by omega), if_pos (by omega), if_pos h, e]
    · rw [if_neg h2] at h
      rw [if_neg h2, if_pos (by omega), if_pos (by omega), if_pos h, e]
theorem aon_loop (x1 x2 x3 : Int) (a0 a1 a2 a3 a4 a5 a6 a7 a8 a9 a10 a11 c0 c1 c2 c3 c4 c5 c6 c7 c8 c9 c10 c11 : Int) (h : ∀ i, i < 12 → [c0, c1, c2, c3, c4, c5, c6, c7, c8, c9, c10, c11].getD i 0 = want x1 x2 x3 [a0, a1, a2, a3, a4, a5, a6, a7, a8, a9, a10, a11] i) : ∀ (d i m : Nat), i + d = 12 → arrearslaw8_LedgerAllOrNone.l0 (2 * d + 1 + m) x1 x2 x3 (i : Int) a0 a1 a2 a3 a4 a5 a6 a7 a8 a9 a10 a11 c0 c1 c2 c3 c4 c5 c6 c7 c8 c9 c10 c11 = some true := by
  intro d
  induction d with
  | zero =>
    intro i m hd
    obtain rfl : i = 12 := by omega
    rw [show 2 * 0 + 1 + m = m + 1 by omega, arrearslaw8_LedgerAllOrNone.l0, if_neg (by omega), posts_true]; rfl
  | succ d ih =>
    intro i m hd
    rw [show 2 * (d + 1) + 1 + m = (2 * d + 1 + m) + 2 by omega, aon_step _ _ _ _ _ _ _ _ _ _ _ _ _ _ _ _ _ _ _ _ _ _ _ _ _ _ _ _ _ (by omega) (h i (by omega))]
    exact ih (i + 1) m (by omega)
theorem bad_one (e : S43) : ledger_Post.bad [e] = ledger_Post.err e := by
  unfold ledger_Post.bad ledger_Post.bad
  split
  · rename_i h; exact h.symm
  · rfl
theorem LedgerAllOrNone_pure : LedgerAllOrNone_Pure := by
  intro B0 x0 a1 a2 a3 h0 h1 h2 h3
  have hb := bk_of h0
  have w3 := wf64' h3
  have e1 : Es [(⟨a1, a2, a3⟩ : S43)] := fun e he => by rw [List.mem_singleton.1 he]; exact w3
  refine ⟨40 + 1 + 1, ?_⟩
  have s80 : ledger_Post.err (⟨a1, a2, a3⟩ : S43) = 80 → arrearslaw8_LedgerAllOrNone.j0 (40 + 1 + 1) a1 a2 a3 true x0.f0.f0 x0.f0.f1 x0.f0.f2 x0.f0.f3 x0.f0.f4 x0.f0.f5 x0.f0.f6 x0.f0.f7 x0.f0.f8 x0.f0.f9 x0.f0.f10 x0.f0.f11 = some true := fun he => by
    rw [arrearslaw8_LedgerAllOrNone.j0, if_pos rfl, post_f hb e1]
    simp only [Option.bind_some, tup]
    rcases spec_cases [x0.f0.f0, x0.f0.f1, x0.f0.f2, x0.f0.f3, x0.f0.f4, x0.f0.f5, x0.f0.f6, x0.f0.f7, x0.f0.f8, x0.f0.f9, x0.f0.f10, x0.f0.f11] [(⟨a1, a2, a3⟩ : S43)] with ⟨hg, _⟩ | ⟨_, eb, _, hc⟩
    · exact absurd hg.1 (by rw [bad_one, he]; decide)
    · have h80 : (ledger_Post.spec [x0.f0.f0, x0.f0.f1, x0.f0.f2, x0.f0.f3, x0.f0.f4, x0.f0.f5, x0.f0.f6, x0.f0.f7, x0.f0.f8, x0.f0.f9, x0.f0.f10, x0.f0.f11] [(⟨a1, a2, a3⟩ : S43)]).2 = 80 := by
        rcases hc with ⟨_, h⟩ | ⟨h, _⟩
        · rw [h, bad_one, he]
        · rw [bad_one, he] at h; cases h
      rw [h80, eb, if_pos rfl]
      simp only [List.getD_cons_zero, List.getD_cons_succ]
      rw [same_true _ (by omega)]; rfl
  unfold arrearslaw8_LedgerAllOrNone.f
  by_cases c1 : a1 < 0
  · rw [if_pos c1]; exact s80 (by unfold ledger_Post.err; rw [if_pos (by dsimp only; omega)])
  rw [if_neg c1]
  by_cases c2 : a1 > 11
  · rw [if_pos c2]; exact s80 (by unfold ledger_Post.err; rw [if_pos (by dsimp only; omega)])
  rw [if_neg c2]
  by_cases c3 : a2 < 0
  · rw [if_pos c3]; exact s80 (by unfold ledger_Post.err; rw [if_pos (by dsimp only; omega)])
  rw [if_neg c3]
  by_cases c4 : a2 > 11
  · rw [if_pos c4]; exact s80 (by unfold ledger_Post.err; rw [if_pos (by dsimp only; omega)])
  rw [if_neg c4]
  by_cases c5 : a1 = a2
  · rw [beq_iff_eq.2 c5]; exact s80 (by unfold ledger_Post.err; rw [if_pos (by dsimp only; omega)])
  rw [beq_eq_false_iff_ne.2 c5, arrearslaw8_LedgerAllOrNone.j0, if_neg (by simp), post_f hb e1]
  simp only [Option.bind_some, tup]
  have herr : ledger_Post.err (⟨a1, a2, a3⟩ : S43) = if a3 < 1 then 4 else 0 := by
    unfold ledger_Post.err; rw [if_neg (by dsimp only; omega)]
  rcases spec_cases [x0.f0.f0, x0.f0.f1, x0.f0.f2, x0.f0.f3, x0.f0.f4, x0.f0.f5, x0.f0.f6, x0.f0.f7, x0.f0.f8, x0.f0.f9, x0.f0.f10, x0.f0.f11] [(⟨a1, a2, a3⟩ : S43)] with ⟨hg, e⟩ | ⟨hng, eb, ne, hc⟩
  · have hp : ¬ a3 < 1 := fun h => by have := hg.1; rw [bad_one, herr, if_pos h] at this; cases this
    rw [e]
    dsimp only
    rw [if_pos rfl, if_neg hp, own_true _ _ _ _ _ _ _ _ _ _ _ _ _ (by omega), post_list_eq (after_len _ _), osB_good hg]
    simp only [Option.bind_some, Bool.not_true]
    rw [arrearslaw8_LedgerAllOrNone.j1, if_neg (by simp)]
    refine aon_loop _ _ _ _ _ _ _ _ _ _ _ _ _ _ _ _ _ _ _ _ _ _ _ _ _ _ _ (fun i hi => ?_) 12 0 15 (by omega)
    rw [post_list_eq (after_len _ _), after_get _ _ hi]
    have hin := (hg.2 i hi).1
    unfold ledger_Post.inr at hin
    rw [Bool.and_eq_true, decide_eq_true_eq, decide_eq_true_eq] at hin
    have ht : ledger_Post.tot [x0.f0.f0, x0.f0.f1, x0.f0.f2, x0.f0.f3, x0.f0.f4, x0.f0.f5, x0.f0.f6, x0.f0.f7, x0.f0.f8, x0.f0.f9, x0.f0.f10, x0.f0.f11] [(⟨a1, a2, a3⟩ : S43)] i = [x0.f0.f0, x0.f0.f1, x0.f0.f2, x0.f0.f3, x0.f0.f4, x0.f0.f5, x0.f0.f6, x0.f0.f7, x0.f0.f8, x0.f0.f9, x0.f0.f10, x0.f0.f11].getD i 0 + ((if a1 = (i : Int) then a3 else 0) - (if a2 = (i : Int) then a3 else 0)) := by
      unfold ledger_Post.tot ledger_Post.amt; simp
    have hbi := hb.get i
    unfold want
    rw [ht] at hin ⊢
    generalize [x0.f0.f0, x0.f0.f1, x0.f0.f2, x0.f0.f3, x0.f0.f4, x0.f0.f5, x0.f0.f6, x0.f0.f7, x0.f0.f8, x0.f0.f9, x0.f0.f10, x0.f0.f11].getD i 0 = bi at hin hbi ⊢
    by_cases i1 : a1 = (i : Int)
    · have i2 : ¬ a2 = (i : Int) := fun h => c5 (i1.trans h.symm)
      rw [if_pos i1, if_neg i2] at hin ⊢
      rw [if_neg (fun h => i2 h.symm), if_pos i1.symm, w64 (by omega) (by omega)]; omega
    · rw [if_neg i1] at hin ⊢
      by_cases i2 : a2 = (i : Int)
      · rw [if_pos i2] at hin ⊢
        rw [if_pos i2.symm, if_neg (fun h => i1 h.symm), w64 (by omega) (by omega)]; omega
      · rw [if_neg i2, if_neg (fun h => i2 h.symm), if_neg (fun h => i1 h.symm)]; omega
  · have hb80 : ledger_Post.bad [(⟨a1, a2, a3⟩ : S43)] = if a3 < 1 then 4 else 0 := by rw [bad_one, herr]
    rw [if_neg ne, eb]
    simp only [List.getD_cons_zero, List.getD_cons_succ]
    rw [same_true _ (by omega)]
    simp only [Option.bind_some, if_true]
    by_cases hp : a3 < 1
    · have h4 : (ledger_Post.spec [x0.f0.f0, x0.f0.f1, x0.f0.f2, x0.f0.f3, x0.f0.f4, x0.f0.f5, x0.f0.f6, x0.f0.f7, x0.f0.f8, x0.f0.f9, x0.f0.f10, x0.f0.f11] [(⟨a1, a2, a3⟩ : S43)]).2 = 4 := by
        rcases hc with ⟨_, h⟩ | ⟨h, _⟩
        · rw [h, hb80, if_pos hp]
        · rw [hb80, if_pos hp] at h; cases h
      rw [h4, decide_eq_true hp]; rfl
    · rw [decide_eq_false hp]
      rcases hc with ⟨h, _⟩ | ⟨_, h | h⟩
      · rw [hb80, if_neg hp] at h; exact absurd rfl h
      · rw [h]; rfl
      · rw [h]; rfl
end Go.Proofs.YtmppfpdaglkhkaaDoor.A
