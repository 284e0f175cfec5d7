/- Just six accounts have their own side at the debit; an account's balance is its net, or its net turned; the balances of a book that may stand add up to Trial's two sums. No condition beyond the lists' bulk. -/
import Derived.Test.YtmppfpdaglkhkaaDoorAx6
import Derived.Test.YtmppfpdaglkhkaaDoorALedE
import Derived.Test.YtmppfpdaglkhkaaDoorALedK
import Derived.Test.YtmppfpdaglkhkaaDoorAx5
import Derived.Test.YtmppfpdaglkhkaaDoorAOpen
namespace Go.Proofs.YtmppfpdaglkhkaaDoor.A
open Go.RowKit Go.Proofs.YtmppfpdaglkhkaaDoorW.PrintWords Go.Proofs.YtmppfpdaglkhkaaDoorW.PrintLast
set_option linter.unusedVariables false
set_option linter.unusedSimpArgs false

def LedgerSides_Pure : Prop := ∀ (B0 : Nat) (x0 : S24) (a1 : Int), (WF24 B0 x0) → ((Lit.int .i64 a1).wf = true) → ∃ k, arrearslaw8_LedgerSides.f k x0.f0.f0 x0.f0.f1 x0.f0.f2 x0.f0.f3 x0.f0.f4 x0.f0.f5 x0.f0.f6 x0.f0.f7 x0.f0.f8 x0.f0.f9 x0.f0.f10 x0.f0.f11 a1 = some true
theorem nl_step (a0 a1 a2 a3 a4 a5 a6 a7 a8 a9 a10 a11 : Int) (k i : Nat) (hi : i < 12) : arrearslaw8_noLeast.l0 (k + 1) (i : Int) a0 a1 a2 a3 a4 a5 a6 a7 a8 a9 a10 a11 = if [a0, a1, a2, a3, a4, a5, a6, a7, a8, a9, a10, a11].getD i 0 = -9223372036854775808 then some false else arrearslaw8_noLeast.l0 k ((i + 1 : Nat) : Int) a0 a1 a2 a3 a4 a5 a6 a7 a8 a9 a10 a11 := by
  rw [arrearslaw8_noLeast.l0, if_pos (by omega), if_pos (by omega), selI_nat, w64 (by omega) (by omega)]; rfl
def nlB (b : List Int) : Bool := (List.range 12).all (fun i => !decide (b.getD i 0 = -9223372036854775808))
theorem nl_loop (a0 a1 a2 a3 a4 a5 a6 a7 a8 a9 a10 a11 : Int) : ∀ (d i m : Nat), i + d = 12 → arrearslaw8_noLeast.l0 (d + 1 + m) (i : Int) a0 a1 a2 a3 a4 a5 a6 a7 a8 a9 a10 a11 = some ((List.range' i d).all (fun j => !decide ([a0, a1, a2, a3, a4, a5, a6, a7, a8, a9, a10, a11].getD j 0 = -9223372036854775808))) := by
  intro d
  induction d with
  | zero =>
    intro i m h
    obtain rfl : i = 12 := by omega
    rw [show 0 + 1 + m = m + 1 by omega, arrearslaw8_noLeast.l0, if_neg (by omega)]; rfl
  | succ d ih =>
    intro i m h
    rw [show d + 1 + 1 + m = (d + 1 + m) + 1 by omega, nl_step _ _ _ _ _ _ _ _ _ _ _ _ _ _ (by omega), ih (i + 1) m (by omega), List.range'_succ, List.all_cons]
    by_cases h : [a0, a1, a2, a3, a4, a5, a6, a7, a8, a9, a10, a11].getD i 0 = -9223372036854775808
    · rw [if_pos h, decide_eq_true h]; rfl
    · rw [if_neg h, decide_eq_false h]; rfl
theorem nl_true (a0 a1 a2 a3 a4 a5 a6 a7 a8 a9 a10 a11 : Int) (k : Nat) (hk : 13 ≤ k) : arrearslaw8_noLeast.f k a0 a1 a2 a3 a4 a5 a6 a7 a8 a9 a10 a11 = some (nlB [a0, a1, a2, a3, a4, a5, a6, a7, a8, a9, a10, a11]) := by
  obtain ⟨m, rfl⟩ : ∃ m, k = 12 + 1 + m := ⟨k - 13, by omega⟩
  unfold arrearslaw8_noLeast.f nlB
  rw [List.range_eq_range']
  exact nl_loop _ _ _ _ _ _ _ _ _ _ _ _ 12 0 m (by omega)
theorem good_nil {b : List Int} (hb : Bk b) : good b [] ↔ osB b = true ∧ nlB b = true := by
  unfold good osB nlB
  rw [List.all_eq_true, List.all_eq_true]
  constructor
  · intro h
    refine ⟨fun i hi => ?_, fun i hi => ?_⟩
    · have h2 := (h.2 i (List.mem_range.1 hi)).2
      rw [tot_nil] at h2; rw [h2]; rfl
    · have h2 := (h.2 i (List.mem_range.1 hi)).1
      rw [tot_nil] at h2
      unfold ledger_Post.inr at h2
      rw [Bool.and_eq_true, decide_eq_true_eq, decide_eq_true_eq] at h2
      rw [decide_eq_false (by omega)]; rfl
  · intro h
    refine ⟨rfl, fun i hi => ?_⟩
    rw [tot_nil]
    have h1 := h.1 i (List.mem_range.2 hi)
    have h2 := h.2 i (List.mem_range.2 hi)
    have hx := hb.get i
    refine ⟨?_, by simpa using h1⟩
    unfold ledger_Post.inr
    rw [Bool.and_eq_true, decide_eq_true_eq, decide_eq_true_eq]
    have h3 : ¬ b.getD i 0 = -9223372036854775808 := by simpa using h2
    omega
/-- The debit accounts' nets; the others' nets turned. -/
def dsum (j : Nat) (x : Int) : Int := if ledger_Post.side j > 0 then x else 0
def csum (j : Nat) (x : Int) : Int := if ledger_Post.side j > 0 then 0 else -x
theorem sides_eq {b : List Int} (h : good b []) : ∀ i, i ≤ 12 → S dsum b i = S (fun _ => posn) b i ∧ S csum b i = S (fun _ => negn) b i
  | 0, _ => ⟨rfl, rfl⟩
  | i + 1, hi => by
    have h1 := sides_eq h i (by omega)
    have h2 := (h.2 i (by omega)).2
    rw [tot_nil] at h2
    unfold ledger_Post.wrong at h2
    rw [Bool.or_eq_false_iff, Bool.and_eq_false_iff, Bool.and_eq_false_iff, decide_eq_false_iff_not, decide_eq_false_iff_not, decide_eq_false_iff_not, decide_eq_false_iff_not] at h2
    rw [S_succ, S_succ, S_succ, S_succ, h1.1, h1.2]
    unfold dsum csum posn negn
    by_cases c : ledger_Post.side i > 0
    · rw [if_pos c, if_pos c]
      refine ⟨?_, ?_⟩ <;> split <;> omega
    · have c2 := side_neg (i := i) (by omega) c
      rw [if_neg c, if_neg c]
      refine ⟨?_, ?_⟩ <;> split <;> omega
def St (b : List Int) (f : Nat → Int → Int) (i : Nat) (w : Int × Int) : Prop := w.1 * 4294967296 + w.2 = S f b i ∧ -((i : Int) * 2147483649) ≤ w.1 ∧ w.1 ≤ (i : Int) * 2147483649 ∧ 0 ≤ w.2 ∧ w.2 ≤ (i : Int) * 4294967296
theorem sides_loop (D C : Int) (a0 a1 a2 a3 a4 a5 a6 a7 a8 a9 a10 a11 : Int) (hb : Bk [a0, a1, a2, a3, a4, a5, a6, a7, a8, a9, a10, a11]) (hg : good [a0, a1, a2, a3, a4, a5, a6, a7, a8, a9, a10, a11] []) (hD : D = S dsum [a0, a1, a2, a3, a4, a5, a6, a7, a8, a9, a10, a11] 12) (hC : C = S csum [a0, a1, a2, a3, a4, a5, a6, a7, a8, a9, a10, a11] 12) (d0 : 0 ≤ D) (d1 : D ≤ 9223372036854775807) (c0 : 0 ≤ C) (c1 : C ≤ 9223372036854775807) :
    ∀ (d i m : Nat) (w v : Int × Int), i + d = 12 → St [a0, a1, a2, a3, a4, a5, a6, a7, a8, a9, a10, a11] dsum i w → St [a0, a1, a2, a3, a4, a5, a6, a7, a8, a9, a10, a11] csum i v → arrearslaw8_LedgerSides.l0 (d + 2 + m) D C (i : Int) a0 a1 a2 a3 a4 a5 a6 a7 a8 a9 a10 a11 w.1 w.2 v.1 v.2 = some true := by
  intro d
  induction d with
  | zero =>
    intro i m w v h hw hv
    obtain rfl : i = 12 := by omega
    obtain ⟨w1, w2, w3, w4, w5⟩ := hw
    obtain ⟨v1, v2, v3, v4, v5⟩ := hv
    rw [← hD] at w1
    rw [← hC] at v1
    clear hD hC hg
    rw [show 0 + 2 + m = (m + 1) + 1 by omega, arrearslaw8_LedgerSides.l0, if_neg (by omega), if_neg (by omega), decide_eq_false (by omega), arrearslaw8_LedgerSides.j5, if_neg (by simp), w64 (x := -D) (by omega) (by omega), w64 (x := -C) (by omega) (by omega)]
    rw [wplus (by omega) (by omega) w4 (by omega) ⟨by omega, by omega⟩, wplus (by omega) (by omega) v4 (by omega) ⟨by omega, by omega⟩]
    simp only [Option.bind_some]
    rw [nothing_true (by omega) (by omega) (by omega) (by omega) (by omega)]
    simp only [Option.bind_some, if_true]
    rw [nothing_true (by omega) (by omega) (by omega) (by omega) (by omega)]
    simp only [Option.bind_some, if_true]
    rw [posts_true]; rfl
  | succ d ih =>
    intro i m w v h hw hv
    clear hD hC
    obtain ⟨w1, w2, w3, w4, w5⟩ := hw
    obtain ⟨v1, v2, v3, v4, v5⟩ := hv
    have W1 := Aside0.mk w1
    have V1 := Aside0.mk v1
    clear w1 v1
    have hx := hb.get i
    have hin := (hg.2 i (by omega)).1
    rw [tot_nil] at hin
    unfold ledger_Post.inr at hin
    rw [Bool.and_eq_true, decide_eq_true_eq, decide_eq_true_eq] at hin
    have e : wrap64 ((i : Int) + 1) = ((i + 1 : Nat) : Int) := by rw [w64 (by omega) (by omega)]; omega
    rw [show d + 1 + 2 + m = (d + 2 + m) + 1 by omega, arrearslaw8_LedgerSides.l0, if_pos (by omega), balance_at _ _ _ _ _ _ _ _ _ _ _ _ i (by omega), debits_at i (by omega), e]
    by_cases c : ledger_Post.side i > 0
    · rw [if_pos c, decide_eq_true c]
      simp only [Option.bind_some, if_true]
      rw [wplus (by omega) (by omega) w4 (by omega) hx]
      simp only [Option.bind_some]
      refine ih (i + 1) m (w.1 + [a0, a1, a2, a3, a4, a5, a6, a7, a8, a9, a10, a11].getD i 0 / 4294967296, w.2 + [a0, a1, a2, a3, a4, a5, a6, a7, a8, a9, a10, a11].getD i 0 % 4294967296) v (by omega) ⟨?_, ?_, ?_, ?_, ?_⟩ ⟨?_, ?_, ?_, v4, ?_⟩
      · rw [S_succ, ← W1.out]; unfold dsum; rw [if_pos c]; dsimp only; omega
      · dsimp only; omega
      · dsimp only; omega
      · dsimp only; omega
      · dsimp only; omega
      · rw [S_succ, ← V1.out]; unfold csum; rw [if_pos c]; omega
      · omega
      · omega
      · omega
    · rw [if_neg c, if_neg (by omega), decide_eq_false c]
      simp only [Option.bind_some, if_true]
      rw [if_neg (by simp), w64 (x := -([a0, a1, a2, a3, a4, a5, a6, a7, a8, a9, a10, a11].getD i 0)) (by omega) (by omega), wplus (by omega) (by omega) v4 (by omega) ⟨by omega, by omega⟩]
      simp only [Option.bind_some]
      refine ih (i + 1) m w (v.1 + -([a0, a1, a2, a3, a4, a5, a6, a7, a8, a9, a10, a11].getD i 0) / 4294967296, v.2 + -([a0, a1, a2, a3, a4, a5, a6, a7, a8, a9, a10, a11].getD i 0) % 4294967296) (by omega) ⟨?_, ?_, ?_, w4, ?_⟩ ⟨?_, ?_, ?_, ?_, ?_⟩
      · rw [S_succ, ← W1.out]; unfold dsum; rw [if_neg c]; omega
      · omega
      · omega
      · omega
      · rw [S_succ, ← V1.out]; unfold csum; rw [if_neg c]; dsimp only; omega
      · dsimp only; omega
      · dsimp only; omega
      · dsimp only; omega
      · dsimp only; omega
set_option maxHeartbeats 1000000 in
theorem sides_j1 (r : Nat) (hr : 30 ≤ r) (a0 a1 a2 a3 a4 a5 a6 a7 a8 a9 a10 a11 : Int) (hb : Bk [a0, a1, a2, a3, a4, a5, a6, a7, a8, a9, a10, a11]) : arrearslaw8_LedgerSides.j1 (12 + 2 + r + 1 + 1 + 1) a0 a1 a2 a3 a4 a5 a6 a7 a8 a9 a10 a11 = some true := by
  have he : Es [] := fun e he => absurd he (List.not_mem_nil)
  have j3 : ∀ D C, arrearslaw8_LedgerSides.j3 (12 + 2 + r + 1) D C true a0 a1 a2 a3 a4 a5 a6 a7 a8 a9 a10 a11 = some true := fun D C => by rw [arrearslaw8_LedgerSides.j3, if_pos rfl, posts_true]; rfl
  rw [arrearslaw8_LedgerSides.j1, post_f hb he, own_true _ _ _ _ _ _ _ _ _ _ _ _ _ (by omega), nl_true _ _ _ _ _ _ _ _ _ _ _ _ _ (by omega)]
  simp only [Option.bind_some, tup]
  have hx : (if osB [a0, a1, a2, a3, a4, a5, a6, a7, a8, a9, a10, a11] = true then arrearslaw8_LedgerSides.j2 (12 + 2 + r + 1 + 1) (ledger_Post.spec [a0, a1, a2, a3, a4, a5, a6, a7, a8, a9, a10, a11] []).2 (((ledger_Post.spec [a0, a1, a2, a3, a4, a5, a6, a7, a8, a9, a10, a11] []).2 == 0) != nlB [a0, a1, a2, a3, a4, a5, a6, a7, a8, a9, a10, a11]) a0 a1 a2 a3 a4 a5 a6 a7 a8 a9 a10 a11 else arrearslaw8_LedgerSides.j2 (12 + 2 + r + 1 + 1) (ledger_Post.spec [a0, a1, a2, a3, a4, a5, a6, a7, a8, a9, a10, a11] []).2 (((ledger_Post.spec [a0, a1, a2, a3, a4, a5, a6, a7, a8, a9, a10, a11] []).2 == 0) != false) a0 a1 a2 a3 a4 a5 a6 a7 a8 a9 a10 a11)
      = arrearslaw8_LedgerSides.j2 (12 + 2 + r + 1 + 1) (ledger_Post.spec [a0, a1, a2, a3, a4, a5, a6, a7, a8, a9, a10, a11] []).2 false a0 a1 a2 a3 a4 a5 a6 a7 a8 a9 a10 a11 := by
    have hgn := good_nil hb
    rcases spec_cases [a0, a1, a2, a3, a4, a5, a6, a7, a8, a9, a10, a11] [] with ⟨hg, e⟩ | ⟨hng, _, ne, _⟩
    · rw [if_pos (hgn.1 hg).1, (hgn.1 hg).2, e]; rfl
    · rw [beq_eq_false_iff_ne.2 ne]
      cases h1 : osB [a0, a1, a2, a3, a4, a5, a6, a7, a8, a9, a10, a11] with
      | false => rfl
      | true =>
        cases h2 : nlB [a0, a1, a2, a3, a4, a5, a6, a7, a8, a9, a10, a11] with
        | false => rfl
        | true => exact absurd (hgn.2 ⟨h1, h2⟩) hng
  rw [hx, arrearslaw8_LedgerSides.j2, if_neg (by simp), trial_true _ _ _ _ _ _ _ _ _ _ _ _ hb _ (by omega)]
  simp only [Option.bind_some]
  rcases spec_cases [a0, a1, a2, a3, a4, a5, a6, a7, a8, a9, a10, a11] [] with ⟨hg, e⟩ | ⟨hng, _, ne, _⟩
  · rw [e]
    dsimp only
    rw [if_pos rfl]
    by_cases hf : ledger_Post.in64 (S (fun _ => posn) [a0, a1, a2, a3, a4, a5, a6, a7, a8, a9, a10, a11] 12) ∧ ledger_Post.in64 (S (fun _ => negn) [a0, a1, a2, a3, a4, a5, a6, a7, a8, a9, a10, a11] 12)
    · have se := sides_eq hg 12 (by omega)
      have bp := (S_le (f := fun _ => posn) (b := [a0, a1, a2, a3, a4, a5, a6, a7, a8, a9, a10, a11]) (M := 9223372036854775808) (fun j => by have := hb.get j; unfold ledger_Post.in64 at this; unfold posn; split <;> omega) 12)
      have bq := (S_le (f := fun _ => negn) (b := [a0, a1, a2, a3, a4, a5, a6, a7, a8, a9, a10, a11]) (M := 9223372036854775808) (fun j => by have := hb.get j; unfold ledger_Post.in64 at this; unfold negn; split <;> omega) 12)
      unfold trialOf
      rw [if_pos hf]
      dsimp only
      rw [Bool.not_true, arrearslaw8_LedgerSides.j3, if_neg (by simp)]
      exact sides_loop _ _ _ _ _ _ _ _ _ _ _ _ _ _ hb hg se.1.symm se.2.symm bp.1 hf.1.2 bq.1 hf.2.2 12 0 r (0, 0) (0, 0) (by omega) ⟨rfl, by decide, by decide, by decide, by decide⟩ ⟨rfl, by decide, by decide, by decide, by decide⟩
    · unfold trialOf
      rw [if_neg hf]
      exact j3 _ _
  · rw [if_neg ne]; exact j3 _ _
theorem LedgerSides_pure : LedgerSides_Pure := by
  intro B0 x0 a1 h0 h1
  have hb := bk_of h0
  have hw := wf64' h1
  obtain ⟨r, hr⟩ : ∃ r, r = 30 := ⟨_, rfl⟩
  refine ⟨12 + 2 + r + 1 + 1 + 1 + 1, ?_⟩
  have j1 := sides_j1 r (by omega) x0.f0.f0 x0.f0.f1 x0.f0.f2 x0.f0.f3 x0.f0.f4 x0.f0.f5 x0.f0.f6 x0.f0.f7 x0.f0.f8 x0.f0.f9 x0.f0.f10 x0.f0.f11 hb
  have out : (a1 < 0 ∨ a1 > 11) → arrearslaw8_LedgerSides.j0 (12 + 2 + r + 1 + 1 + 1 + 1) a1 true x0.f0.f0 x0.f0.f1 x0.f0.f2 x0.f0.f3 x0.f0.f4 x0.f0.f5 x0.f0.f6 x0.f0.f7 x0.f0.f8 x0.f0.f9 x0.f0.f10 x0.f0.f11 = some true := fun h => by
    have e1 : ledger_Balance.f x0.f0.f0 x0.f0.f1 x0.f0.f2 x0.f0.f3 x0.f0.f4 x0.f0.f5 x0.f0.f6 x0.f0.f7 x0.f0.f8 x0.f0.f9 x0.f0.f10 x0.f0.f11 a1 = some (0, 80) := by
      unfold ledger_Balance.f
      by_cases c : a1 < 0
      · rw [if_pos c]
      · rw [if_neg c, if_pos (by omega)]
    have e2 : ledger_Debits.f a1 = some false := by
      unfold ledger_Debits.f
      by_cases c : a1 ≥ 0
      · rw [if_pos c, if_neg (by omega)]
      · rw [if_neg c]
    rw [arrearslaw8_LedgerSides.j0, if_pos rfl, e1, e2]; rfl
  unfold arrearslaw8_LedgerSides.f
  by_cases c : a1 < 0
  · rw [if_pos c]; exact out (.inl c)
  rw [if_neg c]
  by_cases c2 : a1 > 11
  · rw [decide_eq_true c2]; exact out (.inr c2)
  obtain ⟨i, rfl⟩ := Int.eq_ofNat_of_zero_le (show 0 ≤ a1 by omega)
  have hi : i < 12 := by omega
  rw [decide_eq_false c2, arrearslaw8_LedgerSides.j0, if_neg (by simp), balance_at _ _ _ _ _ _ _ _ _ _ _ _ i hi, debits_at i hi, selI_nat]
  simp only [Option.bind_some]
  by_cases cs : ledger_Post.side i > 0
  · rw [if_pos cs, decide_eq_true cs, if_pos rfl, if_pos rfl, if_pos (by omega), if_pos (by omega), if_pos rfl]; exact j1
  · rw [if_neg cs, decide_eq_false cs, if_neg (by simp), if_pos (by omega), if_pos (by omega)]
    by_cases cl : [x0.f0.f0, x0.f0.f1, x0.f0.f2, x0.f0.f3, x0.f0.f4, x0.f0.f5, x0.f0.f6, x0.f0.f7, x0.f0.f8, x0.f0.f9, x0.f0.f10, x0.f0.f11].getD i 0 = -9223372036854775808
    · rw [if_pos cl, if_pos cl, if_pos rfl, if_pos rfl]; exact j1
    · rw [if_neg cl, if_neg cl, if_pos rfl, if_pos rfl]; exact j1
end Go.Proofs.YtmppfpdaglkhkaaDoor.A
