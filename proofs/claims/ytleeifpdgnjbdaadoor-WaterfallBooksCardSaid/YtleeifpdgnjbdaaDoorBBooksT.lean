/- Plain facts: Trial's two sums. No condition. -/
import Derived.Test.YtleeifpdgnjbdaaDoorBLedA
import Derived.Test.YtleeifpdgnjbdaaDoorBx5
namespace Go.Proofs.YtleeifpdgnjbdaaDoor.B
open Go.RowKit Go.Proofs.YtleeifpdgnjbdaaDoorW.PrintWords Go.Proofs.YtleeifpdgnjbdaaDoorW.PrintLast Go.Proofs.YtleeifpdgnjbdaaDoorW.PrintMore
set_option linter.unusedVariables false
set_option linter.unusedSimpArgs false
theorem w64 {x : Int} (h0 : -9223372036854775808 ≤ x) (h1 : x ≤ 9223372036854775807) : wrap64 x = x := by unfold wrap64; omega
theorem selI_nat (l : List Int) (i : Nat) : selI l (i : Int) = l.getD i 0 := by unfold selI; rw [Int.toNat_natCast]
def posn (x : Int) : Int := if x > 0 then x else 0
def negn (x : Int) : Int := if x > 0 then 0 else -x
/-- The sum of f over the first i places. -/
def S (f : Nat → Int → Int) (b : List Int) (i : Nat) : Int := ((List.range i).map (fun j => f j (b.getD j 0))).sum
theorem S_succ (f : Nat → Int → Int) (b : List Int) (i : Nat) : S f b (i + 1) = S f b i + f i (b.getD i 0) := by
  unfold S
  rw [List.range_succ, List.map_append, List.sum_append_int]; simp
theorem S_le {f : Nat → Int → Int} {b : List Int} {M : Int} (h : ∀ j, 0 ≤ f j (b.getD j 0) ∧ f j (b.getD j 0) ≤ M) : ∀ i : Nat, 0 ≤ S f b i ∧ S f b i ≤ (i : Int) * M
  | 0 => by unfold S; simp
  | i + 1 => by
    have h1 := S_le h i
    have h2 := h i
    rw [S_succ, show ((i + 1 : Nat) : Int) * M = (i : Int) * M + M by rw [Int.natCast_add, Int.add_mul]; omega]
    omega
theorem nar {p : Int × Int} (h : ledger_Post.ok p) : (p.1 == wrap64 p.2 / 9223372036854775808) = decide (ledger_Post.in64 (ledger_Post.val p)) ∧ (ledger_Post.in64 (ledger_Post.val p) → wrap64 p.2 = ledger_Post.val p) := by
  unfold ledger_Post.ok at h
  unfold ledger_Post.val ledger_Post.in64
  constructor
  · rw [Bool.eq_iff_iff, beq_iff_eq, decide_eq_true_eq]
    unfold wrap64; omega
  · unfold wrap64; omega
def trialOf (b : List Int) : Int × Int × Bool := if ledger_Post.in64 (S (fun _ => posn) b 12) ∧ ledger_Post.in64 (S (fun _ => negn) b 12) then (S (fun _ => posn) b 12, S (fun _ => negn) b 12, true) else (0, 0, false)
theorem trial_loop (a0 a1 a2 a3 a4 a5 a6 a7 a8 a9 a10 a11 : Int) (hb : Bk [a0, a1, a2, a3, a4, a5, a6, a7, a8, a9, a10, a11]) : ∀ (d i m : Nat) (p q : Int × Int), i + d = 12 → ledger_Post.ok p → ledger_Post.ok q → ledger_Post.val p = S (fun _ => posn) [a0, a1, a2, a3, a4, a5, a6, a7, a8, a9, a10, a11] i → ledger_Post.val q = S (fun _ => negn) [a0, a1, a2, a3, a4, a5, a6, a7, a8, a9, a10, a11] i →
    ledger_Trial.l0 (d + 1 + m) (i : Int) a0 a1 a2 a3 a4 a5 a6 a7 a8 a9 a10 a11 p.1 p.2 q.1 q.2 = some (trialOf [a0, a1, a2, a3, a4, a5, a6, a7, a8, a9, a10, a11]) := by
  intro d
  induction d with
  | zero =>
    intro i m p q h hp hq vp vq
    obtain rfl : i = 12 := by omega
    have np := nar hp
    have nq := nar hq
    rw [show 0 + 1 + m = m + 1 by omega, ledger_Trial.l0, if_neg (by omega)]
    unfold ledger_wide_narrow.f
    simp only [Option.bind_some]
    unfold trialOf
    rw [np.1, nq.1, ← vp, ← vq]
    by_cases c1 : ledger_Post.in64 (ledger_Post.val p)
    · rw [decide_eq_true c1, if_pos rfl, np.2 c1]
      by_cases c2 : ledger_Post.in64 (ledger_Post.val q)
      · rw [decide_eq_true c2, if_pos rfl, nq.2 c2, if_pos ⟨c1, c2⟩]
      · rw [decide_eq_false c2, if_neg (by simp), if_neg (fun h => c2 h.2)]
    · rw [decide_eq_false c1, if_neg (by simp), if_neg (fun h => c1 h.1)]
  | succ d ih =>
    intro i m p q h hp hq vp vq
    have hx := hb.get i
    have e : wrap64 ((i : Int) + 1) = ((i + 1 : Nat) : Int) := by rw [w64 (by omega) (by omega)]; omega
    have bp := (S_le (f := fun _ => posn) (b := [a0, a1, a2, a3, a4, a5, a6, a7, a8, a9, a10, a11]) (M := 9223372036854775808) (fun j => by have := hb.get j; unfold ledger_Post.in64 at this; unfold posn; split <;> omega) i)
    have bq := (S_le (f := fun _ => negn) (b := [a0, a1, a2, a3, a4, a5, a6, a7, a8, a9, a10, a11]) (M := 9223372036854775808) (fun j => by have := hb.get j; unfold ledger_Post.in64 at this; unfold negn; split <;> omega) i)
    have hpb : ledger_Post.big (ledger_Post.val p) := by rw [vp]; unfold ledger_Post.big; omega
    have hqb : ledger_Post.big (ledger_Post.val q) := by rw [vq]; unfold ledger_Post.big; omega
    rw [show d + 1 + 1 + m = (d + 1 + m) + 1 by omega, ledger_Trial.l0, if_pos (by omega), if_pos (by omega), selI_nat, e]
    by_cases c : [a0, a1, a2, a3, a4, a5, a6, a7, a8, a9, a10, a11].getD i 0 > 0
    · rw [if_pos c, ledger_Post.pl_f hp]
      simp only [Option.bind_some]
      refine ih (i + 1) m (ledger_Post.pl p _) q (by omega) (ledger_Post.pl_ok _ _) hq ?_ ?_
      · rw [ledger_Post.pl_val hp hx hpb, vp, S_succ]; unfold posn; rw [if_pos c]
      · rw [vq, S_succ]; unfold negn; rw [if_pos c]; omega
    · rw [if_neg c, ledger_Post.mi_f hq]
      simp only [Option.bind_some]
      refine ih (i + 1) m p (ledger_Post.mi q _) (by omega) hp (ledger_Post.mi_ok _ _) ?_ ?_
      · rw [vp, S_succ]; unfold posn; rw [if_neg c]; omega
      · rw [ledger_Post.mi_val hq hx hqb, vq, S_succ]; unfold negn; rw [if_neg c]; omega
theorem trial_true (a0 a1 a2 a3 a4 a5 a6 a7 a8 a9 a10 a11 : Int) (hb : Bk [a0, a1, a2, a3, a4, a5, a6, a7, a8, a9, a10, a11]) (k : Nat) (hk : 13 ≤ k) : ledger_Trial.f k a0 a1 a2 a3 a4 a5 a6 a7 a8 a9 a10 a11 = some (trialOf [a0, a1, a2, a3, a4, a5, a6, a7, a8, a9, a10, a11]) := by
  obtain ⟨m, rfl⟩ : ∃ m, k = 12 + 1 + m := ⟨k - 13, by omega⟩
  unfold ledger_Trial.f
  exact trial_loop _ _ _ _ _ _ _ _ _ _ _ _ hb 12 0 m (0, 0) (0, 0) (by omega) ⟨by decide, by decide⟩ ⟨by decide, by decide⟩ rfl rfl
end Go.Proofs.YtleeifpdgnjbdaaDoor.B
